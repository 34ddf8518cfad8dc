/- The same, told step by step, so that a proof can walk through it: what is still to be done stands as plain data. -/
import Derived.Test.YtnkdmdjnnbkfgaaGreatEng11
namespace Go.Proofs.YtnkdmdjnnbkfgaaGreat.Eng
open Go Go.RowKit
set_option linter.unusedVariables false
set_option linter.unusedSimpArgs false

def cnd : Bool → Prop → Prop → Prop
  | true, A, _ => A
  | false, _, B => B

structure Reqs (p X : Prop) : Prop where
  pre : p
  go : X

theorem cnd_iff {b : Bool} {A B : Prop} : cnd b A B ↔ (b = true → A) ∧ (b = false → B) := by
  cases b <;> simp [cnd]
theorem cnd_split {b : Bool} {A B : Prop} (h1 : b = true → A) (h2 : b = false → B) : cnd b A B := cnd_iff.2 ⟨h1, h2⟩
theorem cnd_t {A B : Prop} : cnd true A B = A := rfl
theorem cnd_f {A B : Prop} : cnd false A B = B := rfl

section
variable (T : Tab) (O : Orc) (g : List PC)

/-! ### One operation -/

def st1 (d : Option Tmp) (env : Env) (h : Heap) : Option SV → Option St
  | some v => some ⟨putE env d (some v), h⟩
  | none => none
def stH (d : Option Tmp) (env : Env) : Option (Option SV × Heap) → Option St
  | some (v, h) => some ⟨putE env d v, h⟩
  | none => none
def binO (op : BinOp) (t : Nat) : Option AV → Option AV → Option SV
  | some a, some b => (bin T op t a b).map sp
  | _, _ => none
def unO (op : UnOp) : Option PC → Option SV
  | some a => (un op a).map sp
  | none => none
def cellsO : Option AV → Option (List PC)
  | some a => cellsOf a
  | none => none
def boxO (h : Heap) : Option (List PC) → Option (Option SV × Heap)
  | some cs => some (some (.v (.c (.ptr (.own h.length 0)))), h ++ [cs])
  | none => none
def loadC (d : TD) (o : Nat) : Option (List PC) → Option SV
  | some cs => bif d.agg then (bif Nat.ble (o + d.size) cs.length then some (.v (.agg ((cs.drop o).take d.size))) else none) else (cs[o]?).map sp
  | none => none
def loadO (h : Heap) : Option AV → Option TD → Option SV
  | some (.c (.ptr (.own i o))), some d => loadC d o h[i]?
  | some (.c (.ptr (.giv j))), some d => bif d.agg then none else (g[j]?).map sp
  | _, _ => none
def storeC (h : Heap) (i o n : Nat) : Option (List PC) → Option (List PC) → Option (Option SV × Heap)
  | some cs, some new => bif Nat.beq new.length n && Nat.ble (o + n) cs.length then some (none, h.set i (splice cs o new)) else none
  | _, _ => none
def storeO (h : Heap) : Option AV → Option AV → Option TD → Option (Option SV × Heap)
  | some (.c (.ptr (.own i o))), some v, some d => storeC h i o d.size h[i]? (cellsOf v)
  | _, _, _ => none
def convO : Option PC → Option TD → Option TD → Option SV
  | some (.int _ n), some _, some d => match d.ik with
    | some k => some (sp (.int k (k.wrap n)))
    | none => none
  | _, _, _ => none
def fieldO (f : Nat) : Option AV → Option TD → Option SV
  | some (.agg xs), some d => match (d.fields[f]?).bind (xs[·]?) with
    | some c => some (sp c)
    | none => none
  | _, _ => none
def faddrO (f : Nat) : Option AV → Option TD → Option SV
  | some (.c (.ptr (.own i o))), some d => match d.fields[f]? with
    | some q => some (.v (.c (.ptr (.own i (o + q)))))
    | none => none
  | _, _ => none
def extractO (j : Nat) : Option SV → Option SV
  | some (.tup xs) => match xs[j]? with
    | some a => some (.v a)
    | none => none
  | _ => none
def builtinO (b : Builtin) : Option (List AV) → Option SV
  | some l => (builtinF b l).map sp
  | none => none

noncomputable def stepO (d : Option Tmp) (op : Op) (env : Env) (h : Heap) : Option St := match op with
  | .move x | .assign x => st1 d env h (opd env x)
  | .box _ x => stH d env (boxO h (cellsO (opdA env x)))
  | .load t x => st1 d env h (loadO g h (opdA env x) (T t))
  | .store t a x => stH d env (storeO h (opdA env a) (opdA env x) (T t))
  | .binOp op t x y _ => st1 d env h (binO T op t (opdA env x) (opdA env y))
  | .unOp op _ x => st1 d env h (unO op (opdP env x))
  | .convert u t x => st1 d env h (convO (opdP env x) (T u) (T t))
  | .fieldAddr t x f => st1 d env h (faddrO f (opdA env x) (T t))
  | .field t x f => st1 d env h (fieldO f (opdA env x) (T t))
  | .extract x j => st1 d env h (extractO j (opd env x))
  | .call ⟨.builtin b, l, _⟩ => st1 d env h (builtinO b (argsA env l.toList))
  | .call ⟨.value _, _, _⟩ => none
  | .pick .. => none
  | op => stH d env (doOp T O g env h op)

variable {T O g} in
theorem stepO_ok {d : Option Tmp} {op : Op} {env : Env} {h : Heap} {s : St} (hs : stepO T O g d op env h = some s) : ∃ v, doOp T O g env h op = some (v, s.heap) ∧ s.env = putE env d v := by
  have one : ∀ o : Option SV, st1 d env h o = some s → ∃ v, o = some v ∧ s.heap = h ∧ s.env = putE env d (some v) := by
    intro o ho
    cases o with
    | none => cases ho
    | some v => simp [st1] at ho; subst ho; exact ⟨v, rfl, rfl, rfl⟩
  have hp : ∀ o : Option (Option SV × Heap), stH d env o = some s → ∃ v, o = some (v, s.heap) ∧ s.env = putE env d v := by
    intro o ho
    cases o with
    | none => cases ho
    | some x => obtain ⟨v, h'⟩ := x; simp [stH] at ho; subst ho; exact ⟨v, rfl, rfl⟩
  unfold stepO at hs
  split at hs
  · obtain ⟨v, h1, h2, h3⟩ := one _ hs; exact ⟨some v, by simp [doOp, h1, h2], h3⟩
  · obtain ⟨v, h1, h2, h3⟩ := one _ hs; exact ⟨some v, by simp [doOp, h1, h2], h3⟩
  · rename_i t x
    obtain ⟨v, h1, h2⟩ := hp _ hs
    refine ⟨v, ?_, h2⟩
    simp only [doOp]
    cases ha : opdA env x with
    | none => rw [ha] at h1; simp [cellsO, boxO] at h1
    | some a =>
      rw [ha] at h1
      simp only [cellsO] at h1
      simp only
      cases hc : cellsOf a with
      | none => rw [hc] at h1; cases h1
      | some cs => rw [hc] at h1; exact h1
  · rename_i t x
    obtain ⟨v, h1, h2, h3⟩ := one _ hs
    refine ⟨some v, ?_, h3⟩
    rw [h2]
    simp only [doOp]
    unfold loadO at h1
    split at h1
    · rename_i i o d' hx hT
      simp only [hx, hT]
      cases hc : h[i]? with
      | none => rw [hc] at h1; cases h1
      | some cs =>
        rw [hc] at h1
        simp only [loadC] at h1
        cases hagg : d'.agg with
        | true =>
          rw [hagg] at h1
          simp only [cond_true] at h1
          cases hle : Nat.ble (o + d'.size) cs.length with
          | false => rw [hle] at h1; cases h1
          | true =>
            rw [hle] at h1
            simp at h1
            simp [Nat.le_of_ble_eq_true hle, h1]
        | false =>
          rw [hagg] at h1
          simp only [cond_false] at h1
          simp only [Bool.false_eq_true, if_false]
          cases hco : cs[o]? with
          | none => rw [hco] at h1; cases h1
          | some c => rw [hco] at h1; simp at h1; simp [h1]
    · rename_i j d' hx hT
      simp only [hx, hT]
      cases hagg : d'.agg with
      | true => rw [hagg] at h1; cases h1
      | false =>
        rw [hagg] at h1
        simp only [cond_false] at h1
        simp only [Bool.false_eq_true, if_false]
        cases hco : g[j]? with
        | none => rw [hco] at h1; cases h1
        | some c => rw [hco] at h1; simp at h1; simp [h1]
    · cases h1
  · rename_i t a x
    obtain ⟨v, h1, h2⟩ := hp _ hs
    refine ⟨v, ?_, h2⟩
    simp only [doOp]
    unfold storeO at h1
    split at h1
    · rename_i i o v' d' hx hv hT
      simp only [hx, hv, hT]
      cases hc : h[i]? with
      | none => rw [hc] at h1; cases h1
      | some cs =>
        cases hn : cellsOf v' with
        | none => rw [hc, hn] at h1; cases h1
        | some new =>
          rw [hc, hn] at h1
          simp only [storeC] at h1
          cases hb : (Nat.beq new.length d'.size && Nat.ble (o + d'.size) cs.length) with
          | false => rw [hb] at h1; cases h1
          | true =>
            rw [hb] at h1
            simp only [cond_true] at h1
            simp only [Bool.and_eq_true] at hb
            have e1 := Nat.eq_of_beq_eq_true hb.1
            have e2 := Nat.le_of_ble_eq_true hb.2
            simp only
            rw [if_pos ⟨e1, by omega⟩]
            exact h1
    · cases h1
  · rename_i op t x y ty
    obtain ⟨v, h1, h2, h3⟩ := one _ hs
    refine ⟨some v, ?_, h3⟩
    rw [h2]
    simp only [doOp]
    unfold binO at h1
    split at h1
    · rename_i a b ha hb
      simp only [ha, hb]
      cases hr : bin T op t a b with
      | none => rw [hr] at h1; cases h1
      | some r => rw [hr] at h1; simp at h1; simp [h1]
    · cases h1
  · rename_i op t x
    obtain ⟨v, h1, h2, h3⟩ := one _ hs
    refine ⟨some v, ?_, h3⟩
    rw [h2]
    simp only [doOp]
    unfold unO at h1
    split at h1
    · rename_i a ha
      simp only [ha]
      cases hr : un op a with
      | none => rw [hr] at h1; cases h1
      | some r => rw [hr] at h1; simp at h1; simp [h1]
    · cases h1
  · rename_i u t x
    obtain ⟨v, h1, h2, h3⟩ := one _ hs
    refine ⟨some v, ?_, h3⟩
    rw [h2]
    simp only [doOp]
    unfold convO at h1
    split at h1
    · rename_i k n du d' hx hu hT
      simp only [hx, hu, hT]
      cases hk : d'.ik with
      | none => rw [hk] at h1; cases h1
      | some k => rw [hk] at h1; simp at h1; simp [h1]
    · cases h1
  · rename_i t x f
    obtain ⟨v, h1, h2, h3⟩ := one _ hs
    refine ⟨some v, ?_, h3⟩
    rw [h2]
    simp only [doOp]
    unfold faddrO at h1
    split at h1
    · rename_i i o d' hx hT
      simp only [hx, hT]
      cases hk : d'.fields[f]? with
      | none => rw [hk] at h1; cases h1
      | some q => rw [hk] at h1; simp at h1; simp [h1]
    · cases h1
  · rename_i t x f
    obtain ⟨v, h1, h2, h3⟩ := one _ hs
    refine ⟨some v, ?_, h3⟩
    rw [h2]
    simp only [doOp]
    unfold fieldO at h1
    split at h1
    · rename_i xs d' hx hT
      simp only [hx, hT]
      cases hk : (d'.fields[f]?).bind (xs[·]?) with
      | none => rw [hk] at h1; cases h1
      | some q => rw [hk] at h1; simp at h1; simp [h1]
    · cases h1
  · rename_i x j
    obtain ⟨v, h1, h2, h3⟩ := one _ hs
    refine ⟨some v, ?_, h3⟩
    rw [h2]
    simp only [doOp]
    unfold extractO at h1
    split at h1
    · rename_i xs hx
      simp only [hx]
      cases hk : xs[j]? with
      | none => rw [hk] at h1; cases h1
      | some q => rw [hk] at h1; simp at h1; simp [h1]
    · cases h1
  · rename_i b l ts
    obtain ⟨v, h1, h2, h3⟩ := one _ hs
    refine ⟨some v, ?_, h3⟩
    rw [h2]
    simp only [doOp]
    unfold builtinO at h1
    split at h1
    · rename_i l' hl
      simp only [hl]
      cases hr : builtinF b l' with
      | none => rw [hr] at h1; cases h1
      | some r => rw [hr] at h1; simp at h1; simp [h1]
    · cases h1
  · cases hs
  · cases hs
  · exact hp _ hs

/-! ### Calls -/

def calleeO : Option AV → Option (Nat × List Pt)
  | some a => callee a
  | none => none
def argsO (h : Heap) : Option (Nat × List Pt) → Option (List AV) → Option (Nat × List AV × List PC)
  | some (k, caps), some args => match trArgs h g [] (args ++ caps.map fun q => .c (.ptr q)) with
    | some (l, g') => some (k, l, g')
    | none => none
  | _, _ => none
def tellO : Option (Nat × List AV × List PC) → Option (Prop × SV × List (List PC))
  | some (k, l, g') => O k l g'
  | none => none
def callR (f : Operand) (l : List Operand) (env : Env) (h : Heap) : Option (Prop × SV × List (List PC)) :=
  tellO O (argsO g h (calleeO (opdA env f)) (argsA env l))
def stC (d : Option Tmp) (env : Env) (h : Heap) : Option (Prop × SV × List (List PC)) → Option St
  | some (_, r, new) => some ⟨putE env d (some (grow h r new).1), (grow h r new).2⟩
  | none => none
def reqO : Option (Prop × SV × List (List PC)) → Prop → Prop
  | some (pre, _, _), X => Reqs pre X
  | none, _ => False

variable {T O g} in
theorem callR_ok {d : Option Tmp} {f : Operand} {l : List Operand} {ts : Array TypeId} {env : Env} {h : Heap} {X : Prop} (hr : reqO (callR O g f l env h) X) :
    ∃ s v, stC d env h (callR O g f l env h) = some s ∧ doOp T O g env h (.call ⟨.value f, l.toArray, ts⟩) = some (v, s.heap) ∧ s.env = putE env d v ∧ X := by
  unfold callR at hr ⊢
  cases hf : opdA env f with
  | none => rw [hf] at hr; simp only [calleeO, argsO, tellO, reqO] at hr
  | some fa =>
    cases hc : callee fa with
    | none => rw [hf] at hr; simp only [calleeO, hc, argsO, tellO, reqO] at hr
    | some kc =>
      obtain ⟨k, caps⟩ := kc
      cases ha : argsA env l with
      | none => rw [hf, ha] at hr; simp only [calleeO, hc, argsO, tellO, reqO] at hr
      | some args =>
        cases ht : trArgs h g [] (args ++ caps.map fun q => .c (.ptr q)) with
        | none => rw [hf, ha] at hr; simp only [calleeO, hc, argsO, ht, tellO, reqO] at hr
        | some lg =>
          obtain ⟨l', g'⟩ := lg
          cases ho : O k l' g' with
          | none => rw [hf, ha] at hr; simp only [calleeO, hc, argsO, ht, tellO, ho, reqO] at hr
          | some x =>
            obtain ⟨pre, r, new⟩ := x
            rw [hf, ha] at hr
            simp only [calleeO, hc, argsO, ht, tellO, ho, reqO] at hr
            refine ⟨_, _, by simp only [calleeO, hc, argsO, ht, tellO, ho, stC]; rfl, ?_, rfl, hr.go⟩
            simp only [doOp, hf, hc, ha, callF, ht, ho]
            rw [if_pos hr.pre]

/-! ### Regions -/

def asBoolS : Option SV → Option Bool
  | some (.v (.c (.p (.bool b)))) => some b
  | _ => none

/-- The slot that decides whether an operation is carried out. -/
def gslot (all : List Oper) (j : Nat) : Option Nat := (all[j]?).bind (·.dst)
def gateO (env : Env) : Option Nat → Option Bool
  | some d => asBoolS (look env d)
  | none => none

def slotV (env : Env) : Option Nat → Option SV
  | some d => look env d
  | none => none
/-- An operation that is guarded: carried out, passed over, or passed over since its guard was. -/
def grd : Option SV → Bool → Prop → Prop → Prop → Prop
  | some (.v (.c (.p (.bool b)))), want, A, B, _ => cnd (b == want) A B
  | some (.tup []), _, _, _, C => C
  | _, _, _, _, _ => False

theorem grd_out {o : Option SV} {w : Bool} {A B C : Prop} (h : grd o w A B C) : (∃ b, o = some (.v (.c (.p (.bool b)))) ∧ ((b == w) = true → A) ∧ ((b == w) = false → B)) ∨ (o = some (.tup []) ∧ C) := by
  unfold grd at h
  split at h
  · exact .inl ⟨_, rfl, cnd_iff.1 h⟩
  · exact .inr ⟨rfl, h⟩
  · exact h.elim

/-- A test on a slot: behind it the slot is known. -/
def tell (env : Env) (d : Option Nat) (b : Bool) : Env := putE env d (some (sp (.bool b)))

def cndO : Option Bool → Prop → Prop → Prop
  | some b, A, B => cnd b A B
  | none, _, _ => False

theorem cndO_out {o : Option Bool} {A B : Prop} (h : cndO o A B) : ∃ b, o = some b ∧ (b = true → A) ∧ (b = false → B) := by
  cases o with
  | none => exact h.elim
  | some b => exact ⟨b, rfl, cnd_iff.1 h⟩

theorem tell_look {env : Env} {d : Option Nat} {b : Bool} (h : gateO env d = some b) : ∀ t, look (tell env d b) t = look env t := by
  intro t
  cases d with
  | none => cases h
  | some d =>
    simp only [tell, putE, look]
    by_cases e : t = d
    · rw [if_pos e]
      subst e
      simp only [gateO] at h
      unfold asBoolS at h
      split at h
      · rename_i b' hl
        simp at h; subst h
        rw [hl]; rfl
      · cases h
    · rw [if_neg e]

variable {T O g} in
theorem opd_congr {e1 e2 : Env} (h : ∀ t, look e1 t = look e2 t) (x : Operand) : opd e1 x = opd e2 x := by
  cases x <;> simp [opd, h]
variable {T O g} in
theorem doOp_congr {e1 e2 : Env} (h : ∀ t, look e1 t = look e2 t) (hp : Heap) (op : Op) : doOp T O g e1 hp op = doOp T O g e2 hp op := by
  have h0 : opd e1 = opd e2 := funext (opd_congr (h := h))
  have hA : opdA e1 = opdA e2 := by funext x; simp only [opdA, h0]
  have hP : opdP e1 = opdP e2 := by funext x; simp only [opdP, h0]
  have hargs : ∀ l, argsA e1 l = argsA e2 l := by
    intro l
    induction l with
    | nil => rfl
    | cons a r ih => simp only [argsA, hA, ih]
  have hparts : ∀ l, partsP e1 l = partsP e2 l := by
    intro l
    induction l with
    | nil => rfl
    | cons a r ih => obtain ⟨i, x⟩ := a; simp only [partsP, hP, ih]
  cases op <;> simp only [doOp, h0, hA, hP, hargs, hparts]

/-- Environments that read alike serve alike. -/
def Like (e1 e2 : Env) : Prop := ∀ t, look e1 t = look e2 t
theorem Like.put {e1 e2 : Env} (h : Like e1 e2) (d : Option Nat) (v : Option SV) : Like (putE e1 d v) (putE e2 d v) := by
  intro t
  cases d with
  | none => exact h t
  | some d => simp only [putE, look]; split <;> first | rfl | exact h t
theorem Like.goes {e1 e2 : Env} (h : Like e1 e2) (all : Array Oper) (o : Oper) : goes e1 all o = goes e2 all o := by
  unfold Eng.goes; simp only [h _]

def gateP (env : Env) (c : Operand) : Option Bool := asBoolS (opd env c)
def slotOf : Operand → Option Nat
  | .tmp t => some t
  | _ => none

def exec (d : Option Tmp) (op : Op) (env : Env) (h : Heap) (K : Option St → Prop) : Prop :=
  match op with
  | .pick c a b => cndO (gateP env c) (K (st1 d (tell env (slotOf c) true) h (opd env a))) (K (st1 d (tell env (slotOf c) false) h (opd env b)))
  | .call ⟨.value f, l, _⟩ => reqO (callR O g f l.toList env h) (K (stC d env h (callR O g f l.toList env h)))
  | op => K (stepO T O g d op env h)

def opsS (all : List Oper) : List Oper → Option St → (Ex → St → Prop) → Prop
  | [], some s, Q => Q .normal s
  | o :: r, some s, Q => match o.guard with
    | none => exec T O g o.dst o.op s.env s.heap fun s' => opsS all r s' Q
    | some (j, want) => grd (slotV s.env (gslot all j)) want
        (exec T O g o.dst o.op (tell s.env (gslot all j) want) s.heap fun s' => opsS all r s' Q)
        (opsS all r (some ⟨putE (tell s.env (gslot all j) (!want)) o.dst (some (.tup [])), s.heap⟩) Q)
        (opsS all r (some ⟨putE s.env o.dst (some (.tup [])), s.heap⟩) Q)
  | _, none, _ => False

def ifS (b : Bool) (A : Prop) : Prop := match b with
  | true => A
  | false => False

def valOf : Option St → Option (Option SV × Heap)
  | some ⟨(_, v) :: _, h⟩ => some (v, h)
  | _ => none

def sameLen {α : Type} : List α → List α → Bool
  | [], [] => true
  | _ :: a, _ :: b => sameLen a b
  | _, _ => false

def boxK (b : Option Nat) (K : Nat → Prop) : Prop := match b with
  | some b => K b
  | none => False
def drawsS (all : List Oper) (env : Env) (h : Heap) : List Oper → Vals → WS → Lds → (Ex → St → Prop) → Prop
  | [], vals, ws, _, Q => Q .normal ⟨valsEnv vals ++ env, headH h ws⟩
  | o :: r, vals, ws, ls, Q => match o.guard with
    | none => ifS ((o.after.toList.all fun e => !Region.binds .any e || Nat.blt e.on vals.length) && okN o (ldOf (envD all env vals o) o.op) ws)
        (exec T O g (some 0) o.op (envD all env vals o) (heapN h o ws) fun s' => match valOf s' with
          | some (v, h') => bif isStore o.op then boxK (stBox (envD all env vals o) o.op) fun b => ifS (waitsHead o ws && storeOk all o ws ls b vals.length) (drawsS all env h r (vals ++ [o.dst.map (·, v)]) ((vals.length, some b, h') :: ws) (ls ++ [none]) Q)
            else bif sameLen h' (heapN h o ws) then drawsS all env h r (vals ++ [o.dst.map (·, v)]) ws (ls ++ [ldOf (envD all env vals o) o.op]) Q
            else ifS (waitsHead o ws) (drawsS all env h r (vals ++ [o.dst.map (·, v)]) ((vals.length, none, h') :: ws) (ls ++ [none]) Q)
          | none => False)
    | some _ => False

def seqC (N : Option St → Prop) (Q : Ex → St → Prop) (e : Ex) (s : St) : Prop := match e with
  | .normal => N (some s)
  | .ret => Q .ret s
  | .exit i => Q (.exit i) s

/-- What is to be shown of code in a state. -/
def goS : Code → Option St → (Ex → St → Prop) → Prop
  | .skip, some s, Q => Q .normal s
  | .region _ ops false, some s, Q => opsS T O g ops.toList ops.toList (some s) Q
  | .region _ ops true, some s, Q => drawsS T O g ops.toList s.env s.heap ops.toList [] [] [] Q
  | .seq a b, some s, Q => goS a (some s) (seqC (fun s' => goS b s' Q) Q)
  | .cond c a b, some s, Q => cndO (gateP s.env c) (goS a (some ⟨tell s.env (slotOf c) true, s.heap⟩) Q) (goS b (some ⟨tell s.env (slotOf c) false, s.heap⟩) Q)
  | .block id body, some s, Q => goS body (some s) (blockK id Q)
  | .loop body, some s, Q => ∀ X : St → Prop, (∀ s, goS body (some s) (seqK X Q) → X s) → X s
  | .exit id, some s, Q => Q (.exit id) s
  | .ret, some s, Q => Q .ret s
  | _, _, _ => False

end

/-! ### It holds -/

section
variable {P : Program} {w0 : World} {T : Tab} {O : Orc} {G : List Addr} {g : List PC} {nt : Nat}

theorem gateP_like {env : Env} {c : Operand} {b : Bool} (h : gateP env c = some b) : Like (tell env (slotOf c) b) env := by
  cases c with
  | tmp t => exact tell_look (d := some t) h
  | const v => exact fun t => rfl
  | global g => exact fun t => rfl
  | func f => exact fun t => rfl

theorem gateP_opd {env : Env} {c : Operand} {b : Bool} (h : gateP env c = some b) : opdP env c = some (.bool b) := by
  unfold gateP asBoolS at h
  split at h
  · rename_i b' hc
    simp at h; subst h
    simp [opdP, hc]
  · cases h

theorem exec_ok {d : Option Tmp} {op : Op} {env : Env} {h : Heap} {K : Option St → Prop} (hK : K none → False) (hx : exec T O g d op env h K) :
    ∃ v s env', doOp T O g env h op = some (v, s.heap) ∧ Like env' env ∧ s.env = putE env' d v ∧ K (some s) := by
  unfold exec at hx
  split at hx
  · rename_i c a b
    obtain ⟨t, ht, h1, h2⟩ := cndO_out hx
    have hc := gateP_opd ht
    have hl := gateP_like ht
    cases t with
    | true =>
      have h1 := h1 rfl
      cases ha : opd env a with
      | none => rw [ha] at h1; exact (hK h1).elim
      | some v =>
        rw [ha] at h1
        exact ⟨some v, ⟨putE (tell env (slotOf c) true) d (some v), h⟩, tell env (slotOf c) true, by simp [doOp, hc, ha], hl, rfl, h1⟩
    | false =>
      have h2 := h2 rfl
      cases ha : opd env b with
      | none => rw [ha] at h2; exact (hK h2).elim
      | some v =>
        rw [ha] at h2
        exact ⟨some v, ⟨putE (tell env (slotOf c) false) d (some v), h⟩, tell env (slotOf c) false, by simp [doOp, hc, ha], hl, rfl, h2⟩
  · rename_i f l ts
    obtain ⟨s, v, h1, h2, h3, h4⟩ := callR_ok (d := d) (ts := ts) hx
    rw [h1] at h4
    exact ⟨v, s, env, by simpa using h2, fun t => rfl, h3, h4⟩
  · rename_i hp hc
    cases hs : stepO T O g d op env h with
    | none => rw [hs] at hx; exact (hK hx).elim
    | some s =>
      rw [hs] at hx
      obtain ⟨v, h1, h2⟩ := stepO_ok hs
      exact ⟨v, s, env, h1, fun t => rfl, h2, hx⟩

theorem slotV_goes {env : Env} {all : Array Oper} {o : Oper} {j : Nat} {want : Bool} {v : SV} (ho : o.guard = some (j, want)) (hb : slotV env (gslot all.toList j) = some v) :
    goes env all o = (match v with
      | .v (.c (.p (.bool b))) => some (b == want)
      | .tup [] => some false
      | _ => none) := by
  unfold goes
  rw [ho]
  simp only
  have : gslot all.toList j = (all[j]?).bind (·.dst) := by simp [gslot]
  rw [this] at hb
  cases hd : (all[j]?).bind (·.dst) with
  | none => rw [hd] at hb; cases hb
  | some d =>
    rw [hd] at hb
    simp only [slotV] at hb
    simp only [hb]
    cases v with
    | v a => cases a with
      | c x => cases x with
        | p y => cases y <;> rfl
        | ptr q => rfl
        | clo f caps => rfl
        | row i n => rfl
      | agg xs => rfl
    | tup l => cases l <;> rfl
theorem slotV_gate {env : Env} {d : Option Nat} {b : Bool} (h : slotV env d = some (.v (.c (.p (.bool b))))) : gateO env d = some b := by
  cases d with
  | none => cases h
  | some d => simp only [slotV] at h; simp [gateO, asBoolS, h]

theorem opsS_none {all l : List Oper} {Q : Ex → St → Prop} (h : opsS T O g all l none Q) : False := by
  cases l <;> exact h

theorem opsS_ok {all : Array Oper} {Q : Ex → St → Prop} : ∀ {l : List Oper} {s : St} {e : Env}, Like e s.env → opsS T O g all.toList l (some s) Q →
    ∃ s' s'', doOps T O g all l ⟨e, s.heap⟩ = some s' ∧ Like s'.env s''.env ∧ s'.heap = s''.heap ∧ Q .normal s''
  | [], s, e, hl, h => ⟨⟨e, s.heap⟩, s, rfl, hl, rfl, h⟩
  | o :: r, s, e, hl, h => by
    have step : ∀ env : Env, Like e env → goes e all o = some true → exec T O g o.dst o.op env s.heap (fun s' => opsS T O g all.toList r s' Q) →
        ∃ s' s'', doOps T O g all (o :: r) ⟨e, s.heap⟩ = some s' ∧ Like s'.env s''.env ∧ s'.heap = s''.heap ∧ Q .normal s'' := by
      intro env hle hg hx
      obtain ⟨v, s1, env', h1, h2, h2', h3⟩ := exec_ok opsS_none hx
      rw [doOp_congr (fun t => (hle t).symm)] at h1
      have hl1 : Like (putE e o.dst v) s1.env := by
        rw [h2']
        exact Like.put (fun t => (hle t).trans (h2 t).symm) o.dst v
      obtain ⟨s', s'', k1, k2, k3, k4⟩ := opsS_ok hl1 h3
      exact ⟨s', s'', by simp only [doOps, hg, h1]; exact k1, k2, k3, k4⟩
    simp only [opsS] at h
    split at h
    · rename_i hg
      exact step s.env hl (by simp [goes, hg]) h
    · rename_i j want hg
      rcases grd_out h with ⟨b, hv, h1, h2⟩ | ⟨hv, h⟩
      · have hgo := slotV_goes hg hv
        rw [← hl.goes] at hgo
        simp only at hgo
        have hb := slotV_gate hv
        cases hbw : (b == want) with
        | true =>
          have e0 : b = want := by simpa using hbw
          subst e0
          have hlt : Like e (tell s.env (gslot all.toList j) b) := fun t => (hl t).trans (tell_look hb t).symm
          rw [hbw] at hgo
          exact step _ hlt hgo (h1 hbw)
        | false =>
          have e0 : b = !want := by cases b <;> cases want <;> simp at hbw ⊢
          have h2' := h2 hbw
          rw [← e0] at h2'
          have hlt : Like (putE e o.dst (some (.tup []))) (putE (tell s.env (gslot all.toList j) b) o.dst (some (.tup []))) := Like.put (fun t => (hl t).trans (tell_look hb t).symm) o.dst (some (.tup []))
          rw [hbw] at hgo
          obtain ⟨s', s'', k1, k2, k3, k4⟩ := opsS_ok (s := ⟨putE (tell s.env (gslot all.toList j) b) o.dst (some (.tup [])), s.heap⟩) hlt h2'
          exact ⟨s', s'', by simp only [doOps, hgo]; exact k1, k2, k3, k4⟩
      · have hgo := slotV_goes hg hv
        rw [← hl.goes] at hgo
        simp only at hgo
        have hlt : Like (putE e o.dst (some (.tup []))) (putE s.env o.dst (some (.tup []))) := Like.put hl o.dst (some (.tup []))
        obtain ⟨s', s'', k1, k2, k3, k4⟩ := opsS_ok (s := ⟨putE s.env o.dst (some (.tup [])), s.heap⟩) hlt h
        exact ⟨s', s'', by simp only [doOps, hgo]; exact k1, k2, k3, k4⟩

theorem sameLen_ok {α : Type} : ∀ {a b : List α}, sameLen a b = true → a.length = b.length
  | [], [], _ => rfl
  | _ :: a, _ :: b, h => by simp [sameLen_ok (a := a) (b := b) h]
  | [], _ :: _, h => by cases h
  | _ :: _, [], h => by cases h
theorem sameLen_no {α : Type} : ∀ {a b : List α}, sameLen a b = false → ¬ a.length = b.length
  | [], [], h => by cases h
  | _ :: a, _ :: b, h => by simp; exact sameLen_no (a := a) (b := b) h
  | [], _ :: _, _ => by simp
  | _ :: _, [], _ => by simp

theorem ifS_out {b : Bool} {A : Prop} (h : ifS b A) : b = true ∧ A := by
  cases b
  · exact h.elim
  · exact ⟨rfl, h⟩

theorem drawsS_ok {all : Array Oper} {env : Env} {h : Heap} {Q : Ex → St → Prop} : ∀ {l : List Oper} {vals : Vals} {ws : WS} {ls : Lds},
    drawsS T O g all.toList env h l vals ws ls Q → ∃ v' W, doOpsD T O g all env h l vals ws ls = some (v', W) ∧ Q .normal ⟨valsEnv v' ++ env, headH h W⟩
  | [], vals, ws, ls, hk => ⟨vals, ws, rfl, hk⟩
  | o :: r, vals, ws, ls, hk => by
    simp only [drawsS] at hk
    split at hk
    · rename_i hg
      obtain ⟨hed, hk⟩ := ifS_out hk
      rw [Bool.and_eq_true] at hed
      obtain ⟨v, s1, env', h1, h2, h2', h3⟩ := exec_ok (fun h => by simp [valOf] at h) hk
      have hvo : valOf (some s1) = some (v, s1.heap) := by
        obtain ⟨env1, heap1⟩ := s1
        simp only at h2'
        subst h2'
        rfl
      rw [hvo] at h3
      simp only at h3
      simp only [doOpsD]
      have hed' : (o.after.toList.all fun e => !Region.binds .any e || decide (e.on < vals.length)) = true := by
        rw [List.all_eq_true]
        intro e he
        have := List.all_eq_true.1 hed.1 e he
        simp only [Bool.or_eq_true] at this ⊢
        rcases this with h | h
        · exact .inl h
        · exact .inr (decide_eq_true (Nat.blt_eq.mp h))
      rw [if_pos ⟨hg, hed', hed.2⟩]
      simp only [h1]
      cases hst : isStore o.op with
      | true =>
        rw [hst] at h3
        simp only [cond_true] at h3
        simp only [if_true]
        cases hb : stBox (envD all.toList env vals o) o.op with
        | none => rw [hb] at h3; exact h3.elim
        | some b =>
          rw [hb] at h3
          simp only [boxK] at h3 ⊢
          obtain ⟨hw, h3⟩ := ifS_out h3
          rw [Bool.and_eq_true] at hw
          obtain ⟨v', W, k1, k2⟩ := drawsS_ok h3
          rw [if_pos hw, k1]
          exact ⟨_, _, rfl, k2⟩
      | false =>
        rw [hst] at h3
        simp only [cond_false] at h3
        simp only [Bool.false_eq_true, if_false]
        cases hsl : sameLen s1.heap (heapN h o ws) with
        | true =>
          rw [hsl] at h3
          simp only [cond_true] at h3
          rw [if_pos (sameLen_ok hsl)]
          exact drawsS_ok h3
        | false =>
          rw [hsl] at h3
          simp only [cond_false] at h3
          rw [if_neg (sameLen_no hsl)]
          obtain ⟨hw, h3⟩ := ifS_out h3
          rw [if_pos hw]
          exact drawsS_ok h3
    · exact hk.elim

theorem SR.like {ρ : List Nat} {e1 e2 : Env} {h : Heap} {a : Act} {w : World} (S : SR w0 G nt ρ e1 h a w) (hl : Like e1 e2) : SR w0 G nt ρ e2 h a w :=
  ⟨⟨fun t v hv => S.er.at_ t v ((hl t).trans hv), fun t v hv => S.er.wf t v ((hl t).trans hv)⟩, S.hr, S.size, S.defers⟩

theorem goS_none {c : Code} {Q : Ex → St → Prop} (h : goS T O g c none Q) : False := by
  cases c <;> first | exact h | (rename_i d; cases d <;> exact h)

theorem goS_wp (hmix : P.follows .mixedOrders = true) (hT : ∀ t d, T t = some d → TdOk P t d) (hO : Sound P O) (hG : GR G g w0) :
    ∀ (c : Code), codeOk nt c = true → ∀ (s : St) (Q : Ex → St → Prop) (ρ : List Nat) (a : Act) (w : World), SR w0 G nt ρ s.env s.heap a w → goS T O g c (some s) Q → c.wp P (Lift w0 G nt Q) a w := by
  intro c
  induction c with
  | skip => exact fun _ s Q ρ a w S h => wp_skip ⟨.normal, s, ρ, rfl, h, S⟩
  | ret => exact fun _ s Q ρ a w S h => wp_ret ⟨.ret, s, ρ, rfl, h, S⟩
  | exit id => exact fun _ s Q ρ a w S h => wp_exit ⟨.exit id, s, ρ, rfl, h, S⟩
  | region id ops draw =>
    intro hok s Q ρ a w S h
    simp only [codeOk, Bool.and_eq_true] at hok
    have hd := dsts_ok hok.1
    cases draw with
    | false =>
      obtain ⟨s', s'', h1, h2, h3, h4⟩ := opsS_ok (e := s.env) (fun t => rfl) h
      refine wp_region ?_
      have := doOps_wp hT hO hG hd (Q := Lift w0 G nt Q) ops.toList 0 (by simp) s s' ρ a w S h1 (fun ρ' a' w' S' => ⟨.normal, s'', ρ', rfl, h4, by rw [h3] at S'; exact S'.like h2⟩)
      simpa [List.range_eq_range'] using this
    | true =>
      obtain ⟨v, W, h1, h2⟩ := drawsS_ok h
      refine doDraw_wp hmix hT hO hG hd (by simpa using hok.2) S (s' := ⟨valsEnv v ++ s.env, headH s.heap W⟩) (by simp only [doDraw, h1]) (fun ρ' a' w' S' => ⟨.normal, _, ρ', rfl, h2, S'⟩)
  | seq x y ihx ihy =>
    intro hok s Q ρ a w S h
    simp only [codeOk, Bool.and_eq_true] at hok
    refine wp_seq (wp_mono (ihx hok.1 s _ ρ a w S h) ?_)
    rintro e a' w' ⟨ex, s', ρ', rfl, hq, S'⟩
    cases ex with
    | normal => exact ihy hok.2 s' Q ρ' a' w' S' hq
    | ret => exact ⟨.ret, s', ρ', rfl, hq, S'⟩
    | exit i => exact ⟨.exit i, s', ρ', rfl, hq, S'⟩
  | cond c x y ihx ihy =>
    intro hok s Q ρ a w S h
    simp only [codeOk, Bool.and_eq_true] at hok
    obtain ⟨t, ht, h1, h2⟩ := cndO_out h
    have he := S.er.opdP (gateP_opd ht)
    have hl := gateP_like ht
    refine wp_cond_split (t := t) he (fun e => ?_) (fun e => ?_)
    · subst e; exact ihx hok.1 ⟨tell s.env (slotOf c) true, s.heap⟩ Q ρ a w (S.like (fun t => (hl t).symm)) (h1 rfl)
    · subst e; exact ihy hok.2 ⟨tell s.env (slotOf c) false, s.heap⟩ Q ρ a w (S.like (fun t => (hl t).symm)) (h2 rfl)
  | block id body ih =>
    intro hok s Q ρ a w S h
    refine wp_block (wp_mono (ih hok s _ ρ a w S h) ?_)
    rintro e a' w' ⟨ex, s', ρ', rfl, hq, S'⟩
    cases ex with
    | normal => exact ⟨.normal, s', ρ', rfl, hq, S'⟩
    | ret => exact ⟨.ret, s', ρ', rfl, hq, S'⟩
    | exit i =>
      simp only [Ex.of, Exit.inBlock]
      simp only [blockK] at hq
      split
      · rename_i e; rw [if_pos e] at hq; exact ⟨.normal, s', ρ', rfl, hq, S'⟩
      · rename_i e; rw [if_neg e] at hq; exact ⟨.exit i, s', ρ', rfl, hq, S'⟩
  | loop body ih =>
    intro hok s Q ρ a w S h
    have hX := h (fun s => ∀ ρ a w, SR w0 G nt ρ s.env s.heap a w → ∀ (b : Frame) (k : List Item) (cs : List Frame),
      ∃ e a' w', Lift w0 G nt Q e a' w' ∧ Arrives P (lone (b.at a (.code body :: .inLoop body :: k)) cs w) b k cs e a' w') ?_
    · intro b k cs
      obtain ⟨e, a', w', hl, harr⟩ := hX ρ a w S b k cs
      exact ⟨e, a', w', hl, .of_steps (.one step_loop) harr⟩
    · intro s hs ρ a w S b k cs
      obtain ⟨e, a1, w1, ⟨ex, s', ρ', rfl, hq, S'⟩, harr⟩ := ih hok s _ ρ a w S hs b (.inLoop body :: k) cs
      cases ex with
      | normal =>
        obtain ⟨e2, a2, w2, hl2, harr2⟩ := hq ρ' a1 w1 S' b k cs
        exact ⟨e2, a2, w2, hl2, .of_steps (Steps.trans harr (.one step_inLoop)) harr2⟩
      | ret => exact ⟨_, a1, w1, ⟨.ret, s', ρ', rfl, hq, S'⟩, .pass (x := .inLoop body) rfl (fun _ _ => .inl (by simp [Ex.of])) harr⟩
      | exit i => exact ⟨_, a1, w1, ⟨.exit i, s', ρ', rfl, hq, S'⟩, .pass (x := .inLoop body) rfl (fun _ _ => .inl (by simp [Ex.of])) harr⟩
  | rangeFunc f ps asg body _ _ => exact fun _ s Q ρ a w S h => h.elim
  | scope body _ => exact fun _ s Q ρ a w S h => h.elim
  | label l => exact fun _ s Q ρ a w S h => h.elim
  | goto l => exact fun _ s Q ρ a w S h => h.elim
  | refuse why => exact fun _ s Q ρ a w S h => h.elim

/-- What is told at a function's end. -/
def endS (r : SV) (new h : Heap) : Option (List AV) → Prop
  | some l => resSV l = r ∧ r.res new.length ∧ h.take new.length = new
  | none => False
def EndsS (T : Tab) (g : List PC) (rs : List ResultVar) (r : SV) (new : Heap) (e : Ex) (s : St) : Prop :=
  match e with
  | .exit _ => False
  | .normal => endS r new s.heap (resAll T g s rs)
  | .ret => endS r new s.heap (resAll T g s rs)

theorem fn_of_go {n : Nat} {fn : Func} {c : Code} {F : List AV → List PC → Option (Prop × SV × List (List PC))} (hmix : P.follows .mixedOrders = true)
    (hT : ∀ t d, T t = some d → TdOk P t d) (hO : Sound P O) (hf : P.funcs[n]? = some fn) (hname : (fn.name == "runtime.NumGoroutine") = false) (hb : fn.body = some c) {nt : Nat} (hnt : fn.ntmps = nt) (hok : codeOk nt c = true) {rs : List ResultVar} (hrs : fn.results = rs.toArray)
    (h : ∀ args g pre r new, F args g = some (pre, r, new) → pre → args.length ≤ nt ∧ goS T O g c (some ⟨startEnv 0 args, []⟩) (EndsS T g rs r new)) : Fn P n F where
  enters := enters_of hf hname hb
  calls := by
    intro args g pre r new hF hpre hwf G w hG
    obtain ⟨hlen, hvc⟩ := h args g pre r new hF hpre
    subst hnt
    refine calls_of_wp hf hb ?_
    have S : SR w G fn.ntmps [] (startEnv 0 args) [] { tmps := (args.map (AV.conc [] G)).toArray ++ Array.replicate (fn.ntmps - (args.map (AV.conc [] G)).toArray.size) undef, defers := [] } w := by
      refine ⟨⟨?_, ?_⟩, HR.start w, by simp; omega, rfl⟩
      · intro t v hv
        obtain ⟨j, a, rfl, ha, rfl⟩ := look_start args 0 t v hv
        have hj : j < args.length := (List.getElem?_eq_some_iff.1 ha).1
        simp only [Nat.zero_add]
        rw [Array.getElem?_append_left (by simpa using hj)]
        simp [ha, SV.conc]
      · intro t v hv
        obtain ⟨j, a, rfl, ha, rfl⟩ := look_start args 0 t v hv
        exact hwf a (List.mem_of_getElem? ha)
    refine wp_mono (goS_wp hmix hT hO hG c hok _ _ [] _ w S hvc) ?_
    rintro e a' w' ⟨ex, s', ρ', rfl, hq, S'⟩
    have fin : endS r new s'.heap (resAll T g s' rs) →
        a'.defers = [] ∧ ∃ v, (results fn a'.tmps).run P w' = .ok v w' ∧ ∃ σ, Ending.returned v = .returned (r.conc σ G) ∧ HR w σ new w' ∧ r.res new.length := by
      intro he
      cases hl : resAll T g s' rs with
      | none => rw [hl] at he; exact he.elim
      | some l =>
        rw [hl] at he
        obtain ⟨rfl, hres, htake⟩ := he
        refine ⟨S'.defers, _, (results_ok hT S' (fn := fn) (by rw [hrs]; exact hl)).1, ρ'.take new.length, ?_, ?_, hres⟩
        · have hle : new.length ≤ ρ'.length := by
            have := congrArg List.length htake
            rw [S'.hr.len]
            simp at this; omega
          have he : ρ' = ρ'.take new.length ++ ρ'.drop new.length := (List.take_append_drop _ _).symm
          have hl' : (ρ'.take new.length).length = new.length := by simp; omega
          have := SV.conc_ext (ρ := ρ'.take new.length) (σ := ρ'.drop new.length) (G := G) (x := resSV l) (by rw [hl']; exact SV.res_wf hres)
          rw [← he] at this
          rw [this]
        · have := S'.hr.take new.length
          rw [htake] at this
          exact this
    cases ex with
    | normal => exact fin hq
    | ret => exact fin hq
    | exit i => exact hq.elim
end

/-! ### Tables of calls -/

structure OE (P : Program) where
  n : Nat
  F : List AV → List PC → Option (Prop × SV × List (List PC))
  ok : Fn P n F ∨ Ext P n F
def orc {P : Program} : List (OE P) → Orc
  | [], _, _, _ => none
  | e :: r, n, args, g => match Nat.beq n e.n with
    | true => e.F args g
    | false => orc r n args g
theorem orc_sound {P : Program} : ∀ (l : List (OE P)), Sound P (orc l)
  | [], n, args, g, x, h => by cases h
  | e :: r, n, args, g, x, h => by
    cases hn : Nat.beq n e.n with
    | true =>
      have en : n = e.n := Nat.eq_of_beq_eq_true hn
      have : orc (e :: r) n = e.F := by funext a b; simp [orc, hn]
      rw [this, en]; exact e.ok
    | false =>
      have : orc (e :: r) n = orc r n := by funext a b; simp [orc, hn]
      simp only [orc, hn] at h
      rw [this]; exact orc_sound r n args g x h

end Go.Proofs.YtnkdmdjnnbkfgaaGreat.Eng
