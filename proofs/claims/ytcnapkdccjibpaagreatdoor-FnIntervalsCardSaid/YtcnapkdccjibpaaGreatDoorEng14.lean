/- More rules by which a proof walks: regions that draw their order, loops, arrays and rows. -/
import Derived.Test.YtcnapkdccjibpaaGreatDoorEng13
namespace Go.Proofs.YtcnapkdccjibpaaGreatDoor.Eng
open Go Go.RowKit
set_option linter.unusedVariables false
set_option linter.unusedSimpArgs false

section
variable {T : Tab} {O : Orc} {g : Gv}

/-! ### Loops -/

def loopK (A : Env → Heap → Prop) (Q : Ex → St → Prop) (e : Ex) (s : St) : Prop := match e with
  | .normal => A s.env s.heap
  | .ret => Q .ret s
  | .exit i => Q (.exit i) s
theorem loopK_n {A : Env → Heap → Prop} {Q : Ex → St → Prop} {e : Env} {h : Heap} : loopK A Q .normal ⟨e, h⟩ = A e h := rfl
theorem loopK_r {A : Env → Heap → Prop} {Q : Ex → St → Prop} {s : St} : loopK A Q .ret s = Q .ret s := rfl
theorem loopK_e {A : Env → Heap → Prop} {Q : Ex → St → Prop} {s : St} {i : Nat} : loopK A Q (.exit i) s = Q (.exit i) s := rfl
theorem seqK_n {N : St → Prop} {Q : Ex → St → Prop} {s : St} : seqK N Q .normal s = N s := rfl
theorem seqK_r {N : St → Prop} {Q : Ex → St → Prop} {s : St} : seqK N Q .ret s = Q .ret s := rfl
theorem seqK_e {N : St → Prop} {Q : Ex → St → Prop} {s : St} {i : Nat} : seqK N Q (.exit i) s = Q (.exit i) s := rfl

/-- Code asks for nothing but what it is asked for. -/
theorem seqK_loopK {N : St → Prop} {Q : Ex → St → Prop} : seqK N Q = loopK (fun e h => N ⟨e, h⟩) Q := by
  funext e s; obtain ⟨a, b⟩ := s; cases e <;> rfl

/-- A loop by a measure and what holds at its head. -/
theorem go_loop {α : Type} {body : Code} {Q : Ex → St → Prop} (μ : α → Nat) (Inv : α → Env → Heap → Prop) (a : α) {e : Env} {h : Heap} (h0 : Inv a e h)
    (step : ∀ (X : St → Prop) (a : α) (e : Env) (h : Heap), Inv a e h → (∀ b e' h', μ b < μ a → Inv b e' h' → X ⟨e', h'⟩) → goS T O g body (some ⟨e, h⟩) (seqK X Q)) : goS T O g (.loop body) (some ⟨e, h⟩) Q := by
  intro X hX
  have : ∀ n a e h, μ a < n → Inv a e h → X ⟨e, h⟩ := by
    intro n
    induction n with
    | zero => intro a e h hn; omega
    | succ n ih => exact fun a e h hn hi => hX _ (step X a e h hi (fun b e' h' hb hi' => ih b e' h' (by omega) hi'))
  exact this (μ a + 1) a e h (by omega) h0

/-! ### Regions that draw their order -/

def bindsA (n : Nat) : List Edge → Bool
  | [] => true
  | e :: r => (!Region.binds .any e || Nat.blt e.on n) && bindsA n r
theorem bindsA_eq {n : Nat} {l : List Edge} : bindsA n l = l.all fun e => !Region.binds .any e || Nat.blt e.on n := by
  induction l with
  | nil => rfl
  | cons e r ih => simp [bindsA, ih]
theorem beqN (a b : Nat) : Nat.beq a b = (a == b) := by
  by_cases h : a = b
  · subst h; simp [Nat.beq_refl]
  · cases hb : Nat.beq a b with
    | true => exact absurd (Nat.eq_of_beq_eq_true hb) h
    | false => simp [h]
def waitsA (k : Nat) : List Edge → Bool
  | [] => false
  | e :: r => (Region.binds .any e && Nat.beq e.on k) || waitsA k r
theorem waitsA_eq {k : Nat} {l : List Edge} : waitsA k l = l.any fun e => Region.binds .any e && e.on == k := by
  induction l with
  | nil => rfl
  | cons e r ih => simp only [waitsA, ih, List.any_cons, beqN]
def heapA (h : Heap) (l : List Edge) : WS → Heap
  | [] => h
  | (k, _, h1) :: r => bif waitsA k l then h1 else heapA h l r
theorem heapA_eq {ws : WS} {h : Heap} {o : Oper} : heapA h o.after.toList ws = heapN h o ws := by
  induction ws with
  | nil => rfl
  | cons x r ih => obtain ⟨k, st, h1⟩ := x; simp only [heapA, heapN, waitsA_eq, waitsFor, Bool.cond_eq_ite, ih]; rfl
def okA (op : Op) (ld : Option Nat) (l : List Edge) : WS → Bool
  | [] => true
  | (k, st, _) :: r => waitsA k l || (spares (isPure op) ld st && okA op ld l r)
theorem okA_eq {ws : WS} {o : Oper} {ld : Option Nat} : okA o.op ld o.after.toList ws = okN o ld ws := by
  induction ws with
  | nil => rfl
  | cons x r ih => obtain ⟨k, st, h1⟩ := x; simp only [okA, okN, waitsA_eq, waitsFor, ih]
/-- The boxes with those filled that are waited for. -/
def fillA (h : Heap) (l : List Edge) : FL → Heap
  | [] => h
  | (j, i, cs) :: r => bif waitsA j l then (fillA h l r).set i cs else fillA h l r
theorem fillA_eq {fl : FL} {h : Heap} {o : Oper} : fillA h o.after.toList fl = fillH (waitsFor o) h fl := by
  induction fl with
  | nil => rfl
  | cons x r ih => obtain ⟨j, i, cs⟩ := x; simp only [fillA, fillH, waitsA_eq, waitsFor, Bool.cond_eq_ite, ih]; rfl
def flA (l : List Edge) : FL → Bool
  | [] => true
  | (j, _, _) :: r => waitsA j l && flA l r
theorem flA_eq {fl : FL} {o : Oper} : flA o.after.toList fl = waitsFl o fl := by
  induction fl with
  | nil => rfl
  | cons x r ih => obtain ⟨j, i, cs⟩ := x; simp only [flA, waitsFl, waitsA_eq, waitsFor, ih]
def bindsNone : List Edge → Bool
  | [] => true
  | e :: r => !Region.binds .any e && bindsNone r
theorem bindsNone_eq {l : List Edge} : bindsNone l = l.all fun e => !Region.binds .any e := by
  induction l with
  | nil => rfl
  | cons e r ih => simp only [bindsNone, ih, List.all_cons]
def headW (l : List Edge) : WS → Bool
  | [] => true
  | (k, _, _) :: _ => waitsA k l
theorem headW_eq {ws : WS} {o : Oper} : headW o.after.toList ws = waitsHead o ws := by
  cases ws with
  | nil => rfl
  | cons x r => obtain ⟨k, st, h1⟩ := x; simp only [headW, waitsHead, waitsA_eq, waitsFor]
def byC (all : List Oper) (n k : Nat) (r : Bool) : Bool → Bool
  | true => waitsAt all k n || r
  | false => r
def byA (all : List Oper) (l : List Edge) (n : Nat) : Nat → Bool
  | 0 => false
  | k + 1 => byC all n k (byA all l n k) (waitsA k l)
theorem byA_eq {all : List Oper} {o : Oper} {i : Nat} : ∀ {n : Nat}, byA all o.after.toList i n = byWay all o i n
  | 0 => rfl
  | n + 1 => by
    have : waitsA n o.after.toList = waitsFor o n := by rw [waitsA_eq]; rfl
    simp only [byA, byWay, byA_eq, this]
    cases waitsFor o n <;> simp [byC]
def elseW (all : List Oper) (l : List Edge) (n : Nat) : Bool → Bool
  | true => true
  | false => byA all l n all.length
theorem elseW_eq {all : List Oper} {o : Oper} {i : Nat} {b : Bool} : elseW all o.after.toList i b = (b || byWay all o i all.length) := by
  cases b <;> simp [elseW, byA_eq]
def allWait (all : List Oper) (l : List Edge) (ws : WS) (ls : Lds) (b : Option Nat) : Nat → Bool
  | 0 => true
  | n + 1 => allWait all l ws ls b n && elseW all l n (waitsA n l || pureAt all n || isW n ws || otherT b (ldAt ls n))
theorem allWait_eq {all : List Oper} {o : Oper} {ws : WS} {ls : Lds} {b : Option Nat} {n : Nat} : allWait all o.after.toList ws ls b n = storeOk all o ws ls b n := by
  unfold storeOk
  induction n with
  | zero => rfl
  | succ n ih => rw [allWait, ih, List.range_succ, List.all_append, elseW_eq, waitsA_eq]; simp [waitsFor]

def drawN (T : Tab) (O : Orc) (g : Gv) (all : List Oper) (env : Env) (h : Heap) (A : Nat) (d : Option Tmp) (l : List Edge) (r : List Oper) (vals : Vals) (fl : FL) (m : WS) (ls : Lds) (ld : Option Nat) (Q : Ex → St → Prop) : Option St → Prop
  | some ⟨(_, v) :: _, h'⟩ => bif sameLen h' (heapA (fillA (h ++ List.replicate A []) l fl) l m) then drawsS T O g all env h A r (vals ++ [d.map (·, v)]) fl m (ls ++ [ld]) Q
      else ifS (headW l m && flA l fl && Nat.beq fl.length A) (drawsS T O g all env h A r (vals ++ [d.map (·, v)]) fl ((vals.length, none, h') :: m) (ls ++ [none]) Q)
  | _ => False
def drawE (T : Tab) (O : Orc) (g : Gv) (all : List Oper) (env : Env) (h : Heap) (A : Nat) (d : Option Tmp) (l : List Edge) (r : List Oper) (vals : Vals) (fl : FL) (m : WS) (ls : Lds) (b : Option Nat) (Q : Ex → St → Prop) : Option St → Prop
  | some ⟨(_, v) :: _, h'⟩ => ifS (headW l m && flA l fl && Nat.beq fl.length A && allWait all l m ls b vals.length) (drawsS T O g all env h A r (vals ++ [d.map (·, v)]) fl ((vals.length, some b, h') :: m) (ls ++ [none]) Q)
  | _ => False
/-- A box that is made in any order. -/
def drawF (T : Tab) (O : Orc) (g : Gv) (all : List Oper) (env : Env) (h : Heap) (A : Nat) (d : Option Tmp) (r : List Oper) (vals : Vals) (fl : FL) (m : WS) (ls : Lds) (Q : Ex → St → Prop) : Option St → Prop
  | some ⟨(_, v) :: _, h'⟩ => (match h'[h.length + fl.length]? with
      | some cs => drawsS T O g all env h A r (vals ++ [d.map (·, v)]) ((vals.length, h.length + fl.length, cs) :: fl) m (ls ++ [none]) Q
      | none => False)
  | _ => False
/-- A call: does it turn boxes? -/
def drawC (T : Tab) (O : Orc) (g : Gv) (all : List Oper) (env : Env) (h : Heap) (A : Nat) (d : Option Tmp) (l : List Edge) (r : List Oper) (vals : Vals) (fl : FL) (m : WS) (ls : Lds) (mc : Option (Option Nat)) (Q : Ex → St → Prop) (s : Option St) : Prop := match mc with
  | some b => drawE T O g all env h A d l r vals fl m ls b Q s
  | none => drawN T O g all env h A d l r vals fl m ls none Q s

section
variable {all r : List Oper} {d : Option Tmp} {ty : TypeId} {ps : String} {l : List Edge} {env : Env} {h : Heap} {A : Nat} {vals : Vals} {fl : FL} {m : WS} {ls : Lds} {Q : Ex → St → Prop}
theorem ifS_and {a b : Bool} {A : Prop} : ifS a (ifS b A) = ifS (a && b) A := by cases a <;> cases b <;> rfl
def fillT (h : Heap) : FL → Heap
  | [] => h
  | (_, i, cs) :: r => (fillT h r).set i cs
theorem fillT_eq {h : Heap} {fl : FL} : fillT h fl = fillH (fun _ => true) h fl := by
  induction fl with
  | nil => rfl
  | cons x r ih => obtain ⟨j, i, cs⟩ := x; simp only [fillT, fillH, ih]; rfl
theorem dr_eq {op : Op} (hf : isFree ⟨d, op, ty, ps, l.toArray, none⟩ = false) : drawsS T O g all env h A (⟨d, op, ty, ps, l.toArray, none⟩ :: r) vals fl m ls Q =
    ifS (bindsA vals.length l) (ifS (okA op (ldOf (entries vals l ++ (dstsW all.length all ++ env)) op) l m) (exec T O g (some 0) op (entries vals l ++ (dstsW all.length all ++ env)) (heapA (fillA (h ++ List.replicate A []) l fl) l m) fun s' => match valOf s' with
      | some (v, h') => match touch O (entries vals l ++ (dstsW all.length all ++ env)) op with
        | some b => ifS (headW l m && flA l fl && Nat.beq fl.length A && allWait all l m ls b vals.length) (drawsS T O g all env h A r (vals ++ [d.map (·, v)]) fl ((vals.length, some b, h') :: m) (ls ++ [none]) Q)
        | none => bif sameLen h' (heapA (fillA (h ++ List.replicate A []) l fl) l m) then drawsS T O g all env h A r (vals ++ [d.map (·, v)]) fl m (ls ++ [ldOf (entries vals l ++ (dstsW all.length all ++ env)) op]) Q
          else ifS (headW l m && flA l fl && Nat.beq fl.length A) (drawsS T O g all env h A r (vals ++ [d.map (·, v)]) fl ((vals.length, none, h') :: m) (ls ++ [none]) Q)
      | none => False)) := by
  have hfl : fillH (waitsFor ⟨d, op, ty, ps, l.toArray, none⟩) (h ++ List.replicate A []) fl = fillA (h ++ List.replicate A []) l fl := (fillA_eq (o := ⟨d, op, ty, ps, l.toArray, none⟩)).symm
  have hh : heapN (fillA (h ++ List.replicate A []) l fl) ⟨d, op, ty, ps, l.toArray, none⟩ m = (heapA (fillA (h ++ List.replicate A []) l fl) l m) := (heapA_eq (o := ⟨d, op, ty, ps, l.toArray, none⟩)).symm
  have ho : okN ⟨d, op, ty, ps, l.toArray, none⟩ (ldOf (entries vals l ++ (dstsW all.length all ++ env)) op) m = okA op (ldOf (entries vals l ++ (dstsW all.length all ++ env)) op) l m := (okA_eq (o := ⟨d, op, ty, ps, l.toArray, none⟩)).symm
  have hw : waitsHead ⟨d, op, ty, ps, l.toArray, none⟩ m = headW l m := (headW_eq (o := ⟨d, op, ty, ps, l.toArray, none⟩)).symm
  have hwf : waitsFl ⟨d, op, ty, ps, l.toArray, none⟩ fl = flA l fl := (flA_eq (o := ⟨d, op, ty, ps, l.toArray, none⟩)).symm
  have hs : ∀ b, storeOk all ⟨d, op, ty, ps, l.toArray, none⟩ m ls b vals.length = allWait all l m ls b vals.length := fun b => (allWait_eq (o := ⟨d, op, ty, ps, l.toArray, none⟩)).symm
  simp only [drawsS, opDraw, envD, bindsA_eq, hf, cond_false, hfl, hh, ho, hw, hwf, hs]
  rfl
theorem dr_gen {op : Op} (hf : isFree ⟨d, op, ty, ps, l.toArray, none⟩ = false) (hs : touch O (entries vals l ++ (dstsW all.length all ++ env)) op = none) : drawsS T O g all env h A (⟨d, op, ty, ps, l.toArray, none⟩ :: r) vals fl m ls Q =
    ifS (bindsA vals.length l && okA op (ldOf (entries vals l ++ (dstsW all.length all ++ env)) op) l m) (exec T O g (some 0) op (entries vals l ++ (dstsW all.length all ++ env)) (heapA (fillA (h ++ List.replicate A []) l fl) l m) (drawN T O g all env h A d l r vals fl m ls (ldOf (entries vals l ++ (dstsW all.length all ++ env)) op) Q)) := by
  rw [dr_eq hf, ifS_and]
  congr 2
  funext s'
  match s' with
  | none => rfl
  | some ⟨[], h'⟩ => rfl
  | some ⟨(t, v) :: e, h'⟩ => simp only [valOf, hs, drawN]
theorem dr_tch {op : Op} {b : Option Nat} (hf : isFree ⟨d, op, ty, ps, l.toArray, none⟩ = false) (hs : touch O (entries vals l ++ (dstsW all.length all ++ env)) op = some b) : drawsS T O g all env h A (⟨d, op, ty, ps, l.toArray, none⟩ :: r) vals fl m ls Q =
    ifS (bindsA vals.length l && okA op (ldOf (entries vals l ++ (dstsW all.length all ++ env)) op) l m) (exec T O g (some 0) op (entries vals l ++ (dstsW all.length all ++ env)) (heapA (fillA (h ++ List.replicate A []) l fl) l m) (drawE T O g all env h A d l r vals fl m ls b Q)) := by
  rw [dr_eq hf, ifS_and]
  congr 2
  funext s'
  match s' with
  | none => rfl
  | some ⟨[], h'⟩ => rfl
  | some ⟨(t, v) :: e, h'⟩ => simp only [valOf, hs, drawE]
theorem isFree_f {gd : Option (Nat × Bool)} {op : Op} (h1 : isNew op = false) : isFree ⟨d, op, ty, ps, l.toArray, gd⟩ = false := by simp only [isFree, h1, Bool.false_and]
theorem isFree_a {gd : Option (Nat × Bool)} {op : Op} (h1 : isNew op = true) : isFree ⟨d, op, ty, ps, l.toArray, gd⟩ = bindsNone l := by simp only [isFree, h1, Bool.true_and, bindsNone_eq]
/-- What makes a box: in any order, or in turn. -/
theorem dr_new {op : Op} (h1 : isNew op = true) (ht : touch O (entries vals l ++ (dstsW all.length all ++ env)) op = none) (hl : ldOf (entries vals l ++ (dstsW all.length all ++ env)) op = none) : drawsS T O g all env h A (⟨d, op, ty, ps, l.toArray, none⟩ :: r) vals fl m ls Q =
    bif bindsNone l then ifS (m.isEmpty && Nat.blt fl.length A) (exec T O g (some 0) op (dstsW all.length all ++ env) (h ++ List.replicate fl.length []) (drawF T O g all env h A d r vals fl m ls Q))
    else ifS (bindsA vals.length l && okA op none l m) (exec T O g (some 0) op (entries vals l ++ (dstsW all.length all ++ env)) (heapA (fillA (h ++ List.replicate A []) l fl) l m) (drawN T O g all env h A d l r vals fl m ls none Q)) := by
  cases hb : bindsNone l with
  | false =>
    have := dr_gen (T := T) (O := O) (g := g) (all := all) (r := r) (d := d) (ty := ty) (ps := ps) (l := l) (env := env) (h := h) (A := A) (vals := vals) (fl := fl) (m := m) (ls := ls) (Q := Q) (op := op) (by rw [isFree_a h1]; exact hb) ht
    rw [this, hl]; rfl
  | true =>
    have hfr : isFree ⟨d, op, ty, ps, l.toArray, none⟩ = true := by rw [isFree_a h1]; exact hb
    have hba : bindsA vals.length l = true := by
      rw [bindsA_eq]
      rw [bindsNone_eq] at hb
      rw [List.all_eq_true] at hb ⊢
      intro e he
      simp [hb e he]
    have hen : entries vals l = [] := by
      rw [bindsNone_eq] at hb
      clear hba hfr ht hl
      induction l with
      | nil => rfl
      | cons e r ih =>
        simp only [List.all_cons, Bool.and_eq_true, Bool.not_eq_true'] at hb
        simp only [entries]
        rw [if_neg (by rw [hb.1]; simp)]
        exact ih hb.2
    rw [bindsA_eq] at hba
    simp only [drawsS, opDraw, envD, hfr, hba, ifS, cond_true]
    rw [hen]
    simp only [List.nil_append]
    cases hc : (m.isEmpty && Nat.blt fl.length A) with
    | false => rfl
    | true =>
      simp only
      congr 1
      funext s'
      match s' with
      | none => rfl
      | some ⟨[], h'⟩ => rfl
      | some ⟨(t, v) :: e, h'⟩ => simp only [valOf, freeK, drawF]; rfl
theorem opDraw_g {op : Op} {gd : Option (Nat × Bool)} {K : Vals → FL → WS → Lds → Prop} : opDraw T O g all env h A ⟨d, op, ty, ps, l.toArray, gd⟩ vals fl m ls K = opDraw T O g all env h A ⟨d, op, ty, ps, l.toArray, none⟩ vals fl m ls K := by
  have hf : isFree ⟨d, op, ty, ps, l.toArray, gd⟩ = isFree ⟨d, op, ty, ps, l.toArray, none⟩ := rfl
  have hfl : fillH (waitsFor ⟨d, op, ty, ps, l.toArray, gd⟩) (h ++ List.replicate A []) fl = fillH (waitsFor ⟨d, op, ty, ps, l.toArray, none⟩) (h ++ List.replicate A []) fl := rfl
  have he : envD all env vals ⟨d, op, ty, ps, l.toArray, gd⟩ = envD all env vals ⟨d, op, ty, ps, l.toArray, none⟩ := rfl
  have hh : ∀ b, heapN b ⟨d, op, ty, ps, l.toArray, gd⟩ m = heapN b ⟨d, op, ty, ps, l.toArray, none⟩ m := fun b => (heapA_eq (o := ⟨d, op, ty, ps, l.toArray, gd⟩)).symm.trans (heapA_eq (o := ⟨d, op, ty, ps, l.toArray, none⟩))
  have ho : ∀ ld, okN ⟨d, op, ty, ps, l.toArray, gd⟩ ld m = okN ⟨d, op, ty, ps, l.toArray, none⟩ ld m := fun ld => (okA_eq (o := ⟨d, op, ty, ps, l.toArray, gd⟩)).symm.trans (okA_eq (o := ⟨d, op, ty, ps, l.toArray, none⟩))
  have hw : waitsHead ⟨d, op, ty, ps, l.toArray, gd⟩ m = waitsHead ⟨d, op, ty, ps, l.toArray, none⟩ m := (headW_eq (o := ⟨d, op, ty, ps, l.toArray, gd⟩)).symm.trans (headW_eq (o := ⟨d, op, ty, ps, l.toArray, none⟩))
  have hwf : waitsFl ⟨d, op, ty, ps, l.toArray, gd⟩ fl = waitsFl ⟨d, op, ty, ps, l.toArray, none⟩ fl := (flA_eq (o := ⟨d, op, ty, ps, l.toArray, gd⟩)).symm.trans (flA_eq (o := ⟨d, op, ty, ps, l.toArray, none⟩))
  have hs : ∀ b, storeOk all ⟨d, op, ty, ps, l.toArray, gd⟩ m ls b vals.length = storeOk all ⟨d, op, ty, ps, l.toArray, none⟩ m ls b vals.length := fun b => (allWait_eq (o := ⟨d, op, ty, ps, l.toArray, gd⟩)).symm.trans (allWait_eq (o := ⟨d, op, ty, ps, l.toArray, none⟩))
  simp only [opDraw, he, hf, hfl, hh, ho, hw, hwf, hs]
theorem dr_gate {op : Op} {j : Nat} {w : Bool} : drawsS T O g all env h A (⟨d, op, ty, ps, l.toArray, some (j, w)⟩ :: r) vals fl m ls Q =
    gateD (guardS vals (guardD vals l (gslot all j))) w vals (fun v => drawsS T O g all env h A (⟨d, op, ty, ps, l.toArray, none⟩ :: r) v fl m ls Q)
      (fun v => ifS (bindsA v.length l) (drawsS T O g all env h A r (v ++ [d.map (·, some (.tup []))]) fl m (ls ++ [none]) Q)) := by
  simp only [drawsS, opDraw_g (gd := some (j, w)), bindsA_eq]
theorem gateD_some {k : Nat} {v : Option SV} {w : Bool} {A B : Vals → Prop} : gateD (some (k, v)) w vals A B = grd v w (A (tellV vals k w)) (B (tellV vals k (!w))) (B vals) := rfl
theorem guardD_some {s : Nat} : guardD vals l (some s) = srcOf vals s l := rfl
theorem guardS_some {k : Nat} : guardS vals (some k) = guardC k vals[k]? := rfl
theorem guardC_some {k t : Nat} {v : Option SV} : guardC k (some (some (t, v))) = some (k, v) := rfl
theorem srcOf_nil {s : Nat} : srcOf vals s [] = none := rfl
theorem srcOf_cons {s k : Nat} {gr : Ground} {r : List Edge} : srcOf vals s (⟨k, gr⟩ :: r) = bif Region.binds .any ⟨k, gr⟩ then srcC vals[k]? s k (srcOf vals s r) else srcOf vals s r := rfl
theorem srcC_some {s k t : Nat} {v : Option SV} {R : Option Nat} : srcC (some (some (t, v))) s k R = bif Nat.beq t s then some k else R := rfl
theorem srcC_none {s k : Nat} {R : Option Nat} : srcC (some none) s k R = R := rfl
theorem tellV_0 {t : Nat} {v : Option SV} {r : Vals} {b : Bool} : tellV (some (t, v) :: r) 0 b = some (t, some (.v (.c (.p (.bool b))))) :: r := rfl
theorem tellV_s {x : Option (Nat × Option SV)} {r : Vals} {k : Nat} {b : Bool} : tellV (x :: r) (k + 1) b = x :: tellV r k b := rfl
theorem dr_nil : drawsS T O g all env h A [] vals fl m ls Q = ifS (Nat.beq fl.length A) (Q .normal ⟨valsEnv vals ++ env, headH (fillT (h ++ List.replicate A []) fl) m⟩) := by
  rw [fillT_eq]; rfl
theorem dr_move {x : Operand} : drawsS T O g all env h A (⟨d, .move x, ty, ps, l.toArray, none⟩ :: r) vals fl m ls Q =
    ifS (bindsA vals.length l && okA (.move x) none l m) (drawN T O g all env h A d l r vals fl m ls none Q (st1 (some 0) (entries vals l ++ (dstsW all.length all ++ env)) (heapA (fillA (h ++ List.replicate A []) l fl) l m) (opd (entries vals l ++ (dstsW all.length all ++ env)) x))) := dr_gen (isFree_f rfl) rfl
theorem dr_assign {x : Operand} : drawsS T O g all env h A (⟨d, .assign x, ty, ps, l.toArray, none⟩ :: r) vals fl m ls Q =
    ifS (bindsA vals.length l && okA (.assign x) none l m) (drawN T O g all env h A d l r vals fl m ls none Q (st1 (some 0) (entries vals l ++ (dstsW all.length all ++ env)) (heapA (fillA (h ++ List.replicate A []) l fl) l m) (opd (entries vals l ++ (dstsW all.length all ++ env)) x))) := dr_gen (isFree_f rfl) rfl
theorem dr_box {t : Nat} {x : Operand} : drawsS T O g all env h A (⟨d, .box t x, ty, ps, l.toArray, none⟩ :: r) vals fl m ls Q =
    bif bindsNone l then ifS (m.isEmpty && Nat.blt fl.length A) (drawF T O g all env h A d r vals fl m ls Q (stH (some 0) (dstsW all.length all ++ env) (boxO (h ++ List.replicate fl.length []) (cellsO (opdA (dstsW all.length all ++ env) x)))))
    else ifS (bindsA vals.length l && okA (.box t x) none l m) (drawN T O g all env h A d l r vals fl m ls none Q (stH (some 0) (entries vals l ++ (dstsW all.length all ++ env)) (boxO (heapA (fillA (h ++ List.replicate A []) l fl) l m) (cellsO (opdA (entries vals l ++ (dstsW all.length all ++ env)) x))))) := dr_new rfl rfl rfl
theorem dr_load {t : Nat} {x : Operand} : drawsS T O g all env h A (⟨d, .load t x, ty, ps, l.toArray, none⟩ :: r) vals fl m ls Q =
    ifS (bindsA vals.length l && okA (.load t x) (boxOf (opdA (entries vals l ++ (dstsW all.length all ++ env)) x)) l m) (drawN T O g all env h A d l r vals fl m ls (boxOf (opdA (entries vals l ++ (dstsW all.length all ++ env)) x)) Q (st1 (some 0) (entries vals l ++ (dstsW all.length all ++ env)) (heapA (fillA (h ++ List.replicate A []) l fl) l m) (loadO g (heapA (fillA (h ++ List.replicate A []) l fl) l m) (opdA (entries vals l ++ (dstsW all.length all ++ env)) x) (T t)))) := dr_gen (isFree_f rfl) rfl
theorem dr_bin {op : BinOp} {t u : Nat} {x y : Operand} : drawsS T O g all env h A (⟨d, .binOp op t x y u, ty, ps, l.toArray, none⟩ :: r) vals fl m ls Q =
    ifS (bindsA vals.length l && okA (.binOp op t x y u) none l m) (drawN T O g all env h A d l r vals fl m ls none Q (st1 (some 0) (entries vals l ++ (dstsW all.length all ++ env)) (heapA (fillA (h ++ List.replicate A []) l fl) l m) (binO T op t (opdA (entries vals l ++ (dstsW all.length all ++ env)) x) (opdA (entries vals l ++ (dstsW all.length all ++ env)) y)))) := dr_gen (isFree_f rfl) rfl
theorem dr_un {op : UnOp} {t : Nat} {x : Operand} : drawsS T O g all env h A (⟨d, .unOp op t x, ty, ps, l.toArray, none⟩ :: r) vals fl m ls Q =
    ifS (bindsA vals.length l && okA (.unOp op t x) none l m) (drawN T O g all env h A d l r vals fl m ls none Q (st1 (some 0) (entries vals l ++ (dstsW all.length all ++ env)) (heapA (fillA (h ++ List.replicate A []) l fl) l m) (unO op (opdP (entries vals l ++ (dstsW all.length all ++ env)) x)))) := dr_gen (isFree_f rfl) rfl
theorem dr_conv {u t : Nat} {x : Operand} : drawsS T O g all env h A (⟨d, .convert u t x, ty, ps, l.toArray, none⟩ :: r) vals fl m ls Q =
    ifS (bindsA vals.length l && okA (.convert u t x) none l m) (drawN T O g all env h A d l r vals fl m ls none Q (stH (some 0) (entries vals l ++ (dstsW all.length all ++ env)) (convH (pureTy t) (heapA (fillA (h ++ List.replicate A []) l fl) l m) g.m (opdA (entries vals l ++ (dstsW all.length all ++ env)) x) (T u) (T t)))) := dr_gen (isFree_f rfl) rfl
theorem dr_fieldAddr {t f : Nat} {x : Operand} : drawsS T O g all env h A (⟨d, .fieldAddr t x f, ty, ps, l.toArray, none⟩ :: r) vals fl m ls Q =
    ifS (bindsA vals.length l && okA (.fieldAddr t x f) none l m) (drawN T O g all env h A d l r vals fl m ls none Q (st1 (some 0) (entries vals l ++ (dstsW all.length all ++ env)) (heapA (fillA (h ++ List.replicate A []) l fl) l m) (faddrO f (opdA (entries vals l ++ (dstsW all.length all ++ env)) x) (T t)))) := dr_gen (isFree_f rfl) rfl
theorem dr_extract {x : Operand} {j : Nat} : drawsS T O g all env h A (⟨d, .extract x j, ty, ps, l.toArray, none⟩ :: r) vals fl m ls Q =
    ifS (bindsA vals.length l && okA (.extract x j) none l m) (drawN T O g all env h A d l r vals fl m ls none Q (st1 (some 0) (entries vals l ++ (dstsW all.length all ++ env)) (heapA (fillA (h ++ List.replicate A []) l fl) l m) (extractO j (opd (entries vals l ++ (dstsW all.length all ++ env)) x)))) := dr_gen (isFree_f rfl) rfl
theorem dr_max {la : List Operand} {ts : Array TypeId} : drawsS T O g all env h A (⟨d, .call ⟨.builtin .max, la.toArray, ts⟩, ty, ps, l.toArray, none⟩ :: r) vals fl m ls Q =
    ifS (bindsA vals.length l && okA (.call ⟨.builtin .max, la.toArray, ts⟩) none l m) (drawN T O g all env h A d l r vals fl m ls none Q (st1 (some 0) (entries vals l ++ (dstsW all.length all ++ env)) (heapA (fillA (h ++ List.replicate A []) l fl) l m) (builtinO .max (argsA (entries vals l ++ (dstsW all.length all ++ env)) la)))) := dr_gen (isFree_f rfl) rfl
theorem dr_min {la : List Operand} {ts : Array TypeId} : drawsS T O g all env h A (⟨d, .call ⟨.builtin .min, la.toArray, ts⟩, ty, ps, l.toArray, none⟩ :: r) vals fl m ls Q =
    ifS (bindsA vals.length l && okA (.call ⟨.builtin .min, la.toArray, ts⟩) none l m) (drawN T O g all env h A d l r vals fl m ls none Q (st1 (some 0) (entries vals l ++ (dstsW all.length all ++ env)) (heapA (fillA (h ++ List.replicate A []) l fl) l m) (builtinO .min (argsA (entries vals l ++ (dstsW all.length all ++ env)) la)))) := dr_gen (isFree_f rfl) rfl
theorem dr_len {la : List Operand} {t : TypeId} : drawsS T O g all env h A (⟨d, .call ⟨.builtin .len, la.toArray, #[t]⟩, ty, ps, l.toArray, none⟩ :: r) vals fl m ls Q =
    ifS (bindsA vals.length l && okA (.call ⟨.builtin .len, la.toArray, #[t]⟩) none l m) (drawN T O g all env h A d l r vals fl m ls none Q (st1 (some 0) (entries vals l ++ (dstsW all.length all ++ env)) (heapA (fillA (h ++ List.replicate A []) l fl) l m) (lenO (argsA (entries vals l ++ (dstsW all.length all ++ env)) la) (T t)))) := dr_gen (isFree_f rfl) rfl
theorem dr_append {la : List Operand} {ts : Array TypeId} : drawsS T O g all env h A (⟨d, .call ⟨.builtin .append, la.toArray, ts⟩, ty, ps, l.toArray, none⟩ :: r) vals fl m ls Q =
    ifS (bindsA vals.length l && okA (.call ⟨.builtin .append, la.toArray, ts⟩) none l m) (drawE T O g all env h A d l r vals fl m ls none Q (stH (some 0) (entries vals l ++ (dstsW all.length all ++ env)) (doOp T O g (entries vals l ++ (dstsW all.length all ++ env)) (heapA (fillA (h ++ List.replicate A []) l fl) l m) (.call ⟨.builtin .append, la.toArray, ts⟩)))) := dr_tch (isFree_f rfl) rfl
theorem dr_makeSlice {t : Nat} {x y : Operand} : drawsS T O g all env h A (⟨d, .makeSlice t x y, ty, ps, l.toArray, none⟩ :: r) vals fl m ls Q =
    ifS (bindsA vals.length l && okA (.makeSlice t x y) none l m) (drawN T O g all env h A d l r vals fl m ls none Q (stH (some 0) (entries vals l ++ (dstsW all.length all ++ env)) (doOp T O g (entries vals l ++ (dstsW all.length all ++ env)) (heapA (fillA (h ++ List.replicate A []) l fl) l m) (.makeSlice t x y)))) := dr_gen (isFree_f rfl) rfl
theorem dr_slice {t : Nat} {x : Operand} {lo hi mx : Option Operand} : drawsS T O g all env h A (⟨d, .slice t x lo hi mx, ty, ps, l.toArray, none⟩ :: r) vals fl m ls Q =
    ifS (bindsA vals.length l && okA (.slice t x lo hi mx) none l m) (drawN T O g all env h A d l r vals fl m ls none Q (stH (some 0) (entries vals l ++ (dstsW all.length all ++ env)) (doOp T O g (entries vals l ++ (dstsW all.length all ++ env)) (heapA (fillA (h ++ List.replicate A []) l fl) l m) (.slice t x lo hi mx)))) := dr_gen (isFree_f rfl) rfl
theorem dr_call {f : Operand} {la : List Operand} {ts : Array TypeId} : drawsS T O g all env h A (⟨d, .call ⟨.value f, la.toArray, ts⟩, ty, ps, l.toArray, none⟩ :: r) vals fl m ls Q =
    ifS (bindsA vals.length l && okA (.call ⟨.value f, la.toArray, ts⟩) none l m) (reqO (callR O g f la (entries vals l ++ (dstsW all.length all ++ env)) (heapA (fillA (h ++ List.replicate A []) l fl) l m)) (drawC T O g all env h A d l r vals fl m ls (touchC O (opdA (entries vals l ++ (dstsW all.length all ++ env)) f) (argsA (entries vals l ++ (dstsW all.length all ++ env)) la)) Q (stC (some 0) (entries vals l ++ (dstsW all.length all ++ env)) (callR O g f la (entries vals l ++ (dstsW all.length all ++ env)) (heapA (fillA (h ++ List.replicate A []) l fl) l m))))) := by
  cases hm : touchC O (opdA (entries vals l ++ (dstsW all.length all ++ env)) f) (argsA (entries vals l ++ (dstsW all.length all ++ env)) la) with
  | some b => exact dr_tch (isFree_f rfl) (by simp only [touch, hm])
  | none => exact dr_gen (isFree_f rfl) (by simp only [touch, hm])
theorem dr_alloc {t : Nat} : drawsS T O g all env h A (⟨d, .alloc t, ty, ps, l.toArray, none⟩ :: r) vals fl m ls Q =
    bif bindsNone l then ifS (m.isEmpty && Nat.blt fl.length A) (drawF T O g all env h A d r vals fl m ls Q (stH (some 0) (dstsW all.length all ++ env) (doOp T O g (dstsW all.length all ++ env) (h ++ List.replicate fl.length []) (.alloc t))))
    else ifS (bindsA vals.length l && okA (.alloc t) none l m) (drawN T O g all env h A d l r vals fl m ls none Q (stH (some 0) (entries vals l ++ (dstsW all.length all ++ env)) (doOp T O g (entries vals l ++ (dstsW all.length all ++ env)) (heapA (fillA (h ++ List.replicate A []) l fl) l m) (.alloc t)))) := dr_new rfl rfl rfl
theorem dr_indexAddr {t : Nat} {x ix : Operand} : drawsS T O g all env h A (⟨d, .indexAddr t x ix, ty, ps, l.toArray, none⟩ :: r) vals fl m ls Q =
    ifS (bindsA vals.length l && okA (.indexAddr t x ix) none l m) (drawN T O g all env h A d l r vals fl m ls none Q (stH (some 0) (entries vals l ++ (dstsW all.length all ++ env)) (doOp T O g (entries vals l ++ (dstsW all.length all ++ env)) (heapA (fillA (h ++ List.replicate A []) l fl) l m) (.indexAddr t x ix)))) := dr_gen (isFree_f rfl) rfl
theorem dr_nilCheck {x : Operand} : drawsS T O g all env h A (⟨d, .nilCheck x, ty, ps, l.toArray, none⟩ :: r) vals fl m ls Q =
    ifS (bindsA vals.length l && okA (.nilCheck x) none l m) (drawN T O g all env h A d l r vals fl m ls none Q (stH (some 0) (entries vals l ++ (dstsW all.length all ++ env)) (doOp T O g (entries vals l ++ (dstsW all.length all ++ env)) (heapA (fillA (h ++ List.replicate A []) l fl) l m) (.nilCheck x)))) := dr_gen (isFree_f rfl) rfl
theorem dr_index {t : Nat} {x ix : Operand} : drawsS T O g all env h A (⟨d, .index t x ix, ty, ps, l.toArray, none⟩ :: r) vals fl m ls Q =
    ifS (bindsA vals.length l && okA (.index t x ix) none l m) (drawN T O g all env h A d l r vals fl m ls none Q (stH (some 0) (entries vals l ++ (dstsW all.length all ++ env)) (doOp T O g (entries vals l ++ (dstsW all.length all ++ env)) (heapA (fillA (h ++ List.replicate A []) l fl) l m) (.index t x ix)))) := dr_gen (isFree_f rfl) rfl
theorem dr_build {t : Nat} {p : Array (Nat × Operand)} : drawsS T O g all env h A (⟨d, .build t p, ty, ps, l.toArray, none⟩ :: r) vals fl m ls Q =
    ifS (bindsA vals.length l && okA (.build t p) none l m) (drawN T O g all env h A d l r vals fl m ls none Q (stH (some 0) (entries vals l ++ (dstsW all.length all ++ env)) (doOp T O g (entries vals l ++ (dstsW all.length all ++ env)) (heapA (fillA (h ++ List.replicate A []) l fl) l m) (.build t p)))) := dr_gen (isFree_f rfl) rfl
theorem dr_buildSlice {t n : Nat} {p : Array (Nat × Operand)} : drawsS T O g all env h A (⟨d, .buildSlice t n p, ty, ps, l.toArray, none⟩ :: r) vals fl m ls Q =
    bif bindsNone l then ifS (m.isEmpty && Nat.blt fl.length A) (drawF T O g all env h A d r vals fl m ls Q (stH (some 0) (dstsW all.length all ++ env) (doOp T O g (dstsW all.length all ++ env) (h ++ List.replicate fl.length []) (.buildSlice t n p))))
    else ifS (bindsA vals.length l && okA (.buildSlice t n p) none l m) (drawN T O g all env h A d l r vals fl m ls none Q (stH (some 0) (entries vals l ++ (dstsW all.length all ++ env)) (doOp T O g (entries vals l ++ (dstsW all.length all ++ env)) (heapA (fillA (h ++ List.replicate A []) l fl) l m) (.buildSlice t n p)))) := dr_new rfl rfl rfl
theorem dr_makeFunc {fn : Go.Fn} {a b : Array Operand} : drawsS T O g all env h A (⟨d, .makeFunc fn a b, ty, ps, l.toArray, none⟩ :: r) vals fl m ls Q =
    ifS (bindsA vals.length l && okA (.makeFunc fn a b) none l m) (drawN T O g all env h A d l r vals fl m ls none Q (stH (some 0) (entries vals l ++ (dstsW all.length all ++ env)) (doOp T O g (entries vals l ++ (dstsW all.length all ++ env)) (heapA (fillA (h ++ List.replicate A []) l fl) l m) (.makeFunc fn a b)))) := dr_gen (isFree_f rfl) rfl
theorem dr_field {t f : Nat} {x : Operand} : drawsS T O g all env h A (⟨d, .field t x f, ty, ps, l.toArray, none⟩ :: r) vals fl m ls Q =
    ifS (bindsA vals.length l && okA (.field t x f) none l m) (drawN T O g all env h A d l r vals fl m ls none Q (st1 (some 0) (entries vals l ++ (dstsW all.length all ++ env)) (heapA (fillA (h ++ List.replicate A []) l fl) l m) (fieldO f (opdA (entries vals l ++ (dstsW all.length all ++ env)) x) (T t)))) := dr_gen (isFree_f rfl) rfl
theorem dr_pick {c a b : Operand} : drawsS T O g all env h A (⟨d, .pick c a b, ty, ps, l.toArray, none⟩ :: r) vals fl m ls Q =
    ifS (bindsA vals.length l && okA (.pick c a b) none l m) (cndO (gateP (entries vals l ++ (dstsW all.length all ++ env)) c) (drawN T O g all env h A d l r vals fl m ls none Q (st1 (some 0) (tell (entries vals l ++ (dstsW all.length all ++ env)) (slotOf c) true) (heapA (fillA (h ++ List.replicate A []) l fl) l m) (opd (entries vals l ++ (dstsW all.length all ++ env)) a))) (drawN T O g all env h A d l r vals fl m ls none Q (st1 (some 0) (tell (entries vals l ++ (dstsW all.length all ++ env)) (slotOf c) false) (heapA (fillA (h ++ List.replicate A []) l fl) l m) (opd (entries vals l ++ (dstsW all.length all ++ env)) b)))) := dr_gen (isFree_f rfl) rfl
theorem dr_store {t : Nat} {a x : Operand} : drawsS T O g all env h A (⟨d, .store t a x, ty, ps, l.toArray, none⟩ :: r) vals fl m ls Q =
    ifS (bindsA vals.length l && okA (.store t a x) none l m) (drawE T O g all env h A d l r vals fl m ls (boxOf (opdA (entries vals l ++ (dstsW all.length all ++ env)) a)) Q (stH (some 0) (entries vals l ++ (dstsW all.length all ++ env)) (storeO (heapA (fillA (h ++ List.replicate A []) l fl) l m) (opdA (entries vals l ++ (dstsW all.length all ++ env)) a) (opdA (entries vals l ++ (dstsW all.length all ++ env)) x) (T t)))) := dr_tch (isFree_f rfl) rfl
theorem drawN_p {v : Option SV} {t : Nat} {e : Env} {h' : Heap} {ld : Option Nat} (hs : sameLen h' (heapA (fillA (h ++ List.replicate A []) l fl) l m) = true) : drawN T O g all env h A d l r vals fl m ls ld Q (some ⟨(t, v) :: e, h'⟩) = drawsS T O g all env h A r (vals ++ [d.map (·, v)]) fl m (ls ++ [ld]) Q := by
  simp only [drawN, hs, cond_true]
theorem drawN_g {v : Option SV} {t : Nat} {e : Env} {h' : Heap} {ld : Option Nat} (hs : sameLen h' (heapA (fillA (h ++ List.replicate A []) l fl) l m) = false) : drawN T O g all env h A d l r vals fl m ls ld Q (some ⟨(t, v) :: e, h'⟩) = ifS (headW l m && flA l fl && Nat.beq fl.length A) (drawsS T O g all env h A r (vals ++ [d.map (·, v)]) fl ((vals.length, none, h') :: m) (ls ++ [none]) Q) := by
  simp only [drawN, hs, cond_false]
theorem drawE_s {v : Option SV} {t : Nat} {e : Env} {h' : Heap} {b : Option Nat} : drawE T O g all env h A d l r vals fl m ls b Q (some ⟨(t, v) :: e, h'⟩) = ifS (headW l m && flA l fl && Nat.beq fl.length A && allWait all l m ls b vals.length) (drawsS T O g all env h A r (vals ++ [d.map (·, v)]) fl ((vals.length, some b, h') :: m) (ls ++ [none]) Q) := rfl
def cellK (c : Option (List PC)) (K : List PC → Prop) : Prop := match c with
  | some cs => K cs
  | none => False
theorem cellK_some {cs : List PC} {K : List PC → Prop} : cellK (some cs) K = K cs := rfl
theorem drawF_s {v : Option SV} {t : Nat} {e : Env} {h' : Heap} : drawF T O g all env h A d r vals fl m ls Q (some ⟨(t, v) :: e, h'⟩) = cellK h'[h.length + fl.length]? (fun cs => drawsS T O g all env h A r (vals ++ [d.map (·, v)]) ((vals.length, h.length + fl.length, cs) :: fl) m (ls ++ [none]) Q) := rfl
theorem drawC_t {b : Option Nat} {s : Option St} : drawC T O g all env h A d l r vals fl m ls (some b) Q s = drawE T O g all env h A d l r vals fl m ls b Q s := rfl
theorem drawC_f {s : Option St} : drawC T O g all env h A d l r vals fl m ls none Q s = drawN T O g all env h A d l r vals fl m ls none Q s := rfl
theorem touchC_fn {f : Nat} {l : Option (List AV)} : touchC O (some (.c (.p (.fn f)))) l = bif (O.m f).isSome then some (oneB (O.one f) [] l) else none := rfl
theorem touchC_clo {f : Nat} {caps : List Pt} {l : Option (List AV)} : touchC O (some (.c (.clo f caps))) l = bif (O.m f).isSome then some (oneB (O.one f) caps l) else none := rfl
theorem oneB_t {l : List AV} : oneB true [] (some l) = headBox l := rfl
theorem oneB_f {c : List Pt} {l : Option (List AV)} : oneB false c l = none := by cases c <;> cases l <;> rfl
theorem headBox_own {b : Nat} {r : List AV} : headBox (.c (.ptr (.own b 0)) :: r) = some b := rfl
theorem headBox_row {i o n z : Nat} {r : List AV} : headBox (.c (.row i o n z) :: r) = some i := rfl
theorem headBox_emp {i o : Nat} {r : List AV} : headBox (.c (.emp i o) :: r) = some i := rfl
theorem headBox_p {x : PC} {r : List AV} : headBox (.c (.p x) :: r) = some 1000000 := rfl
theorem orc_one {P : Program} {l : List (OE P)} {k : Nat} : (orc l).one k = false := rfl
theorem orcM_one {P : Program} {l : List (OE P)} {ms : List (ME P)} {k : Nat} : (orcM l ms).one k = orcOnes ms k := rfl
theorem orcB_one {P : Program} {l : List (OE P)} {ms : List (ME P)} {k : Nat} : (orcB l ms).one k = orcOnes ms k := rfl
theorem orcOnes_nil {P : Program} {k : Nat} : orcOnes ([] : List (ME P)) k = false := rfl
theorem orcOnes_cons {P : Program} {k m : Nat} {M : MT} {o : Bool} {ho : o = true → OneM M} {ok : Mn P m M} {r : List (ME P)} : orcOnes (⟨m, M, o, ho, ok⟩ :: r) k = bif Nat.beq k m then o else orcOnes r k := rfl
theorem fillA_nil : fillA h l [] = h := rfl
theorem fillA_cons {j i : Nat} {cs : List PC} {r : FL} : fillA h l ((j, i, cs) :: r) = bif waitsA j l then (fillA h l r).set i cs else fillA h l r := rfl
theorem flA_nil : flA l [] = true := rfl
theorem flA_cons {j i : Nat} {cs : List PC} {r : FL} : flA l ((j, i, cs) :: r) = (waitsA j l && flA l r) := rfl
theorem fillT_nil : fillT h [] = h := rfl
theorem fillT_cons {j i : Nat} {cs : List PC} {r : FL} : fillT h ((j, i, cs) :: r) = (fillT h r).set i cs := rfl
theorem bindsNone_nil : bindsNone [] = true := rfl
theorem bindsNone_cons {k : Nat} {gr : Ground} {r : List Edge} : bindsNone (⟨k, gr⟩ :: r) = (!Region.binds .any ⟨k, gr⟩ && bindsNone r) := rfl
theorem frees_nil : frees [] = 0 := rfl
theorem frees_cons {o : Oper} {r : List Oper} : frees (o :: r) = bif isFree o then frees r + 1 else frees r := rfl
theorem free_alloc {gd : Option (Nat × Bool)} {t : Nat} : isFree ⟨d, .alloc t, ty, ps, l.toArray, gd⟩ = bindsNone l := isFree_a rfl
theorem free_box {gd : Option (Nat × Bool)} {t : Nat} {x : Operand} : isFree ⟨d, .box t x, ty, ps, l.toArray, gd⟩ = bindsNone l := isFree_a rfl
theorem free_bsl {gd : Option (Nat × Bool)} {t n : Nat} {p : Array (Nat × Operand)} : isFree ⟨d, .buildSlice t n p, ty, ps, l.toArray, gd⟩ = bindsNone l := isFree_a rfl
theorem free_move {gd : Option (Nat × Bool)} {af : Array Edge} {x : Operand} : isFree ⟨d, .move x, ty, ps, af, gd⟩ = false := rfl
theorem free_assign {gd : Option (Nat × Bool)} {af : Array Edge} {x : Operand} : isFree ⟨d, .assign x, ty, ps, af, gd⟩ = false := rfl
theorem free_load {gd : Option (Nat × Bool)} {af : Array Edge} {t : Nat} {x : Operand} : isFree ⟨d, .load t x, ty, ps, af, gd⟩ = false := rfl
theorem free_store {gd : Option (Nat × Bool)} {af : Array Edge} {t : Nat} {a x : Operand} : isFree ⟨d, .store t a x, ty, ps, af, gd⟩ = false := rfl
theorem free_bin {gd : Option (Nat × Bool)} {af : Array Edge} {o : BinOp} {t u : Nat} {x y : Operand} : isFree ⟨d, .binOp o t x y u, ty, ps, af, gd⟩ = false := rfl
theorem free_un {gd : Option (Nat × Bool)} {af : Array Edge} {o : UnOp} {t : Nat} {x : Operand} : isFree ⟨d, .unOp o t x, ty, ps, af, gd⟩ = false := rfl
theorem free_conv {gd : Option (Nat × Bool)} {af : Array Edge} {u t : Nat} {x : Operand} : isFree ⟨d, .convert u t x, ty, ps, af, gd⟩ = false := rfl
theorem free_fieldAddr {gd : Option (Nat × Bool)} {af : Array Edge} {t f : Nat} {x : Operand} : isFree ⟨d, .fieldAddr t x f, ty, ps, af, gd⟩ = false := rfl
theorem free_field {gd : Option (Nat × Bool)} {af : Array Edge} {t f : Nat} {x : Operand} : isFree ⟨d, .field t x f, ty, ps, af, gd⟩ = false := rfl
theorem free_ext {gd : Option (Nat × Bool)} {af : Array Edge} {j : Nat} {x : Operand} : isFree ⟨d, .extract x j, ty, ps, af, gd⟩ = false := rfl
theorem free_call {gd : Option (Nat × Bool)} {af : Array Edge} {c : Call} : isFree ⟨d, .call c, ty, ps, af, gd⟩ = false := rfl
theorem free_nil {gd : Option (Nat × Bool)} {af : Array Edge} {x : Operand} : isFree ⟨d, .nilCheck x, ty, ps, af, gd⟩ = false := rfl
theorem free_iad {gd : Option (Nat × Bool)} {af : Array Edge} {t : Nat} {x y : Operand} : isFree ⟨d, .indexAddr t x y, ty, ps, af, gd⟩ = false := rfl
theorem free_idx {gd : Option (Nat × Bool)} {af : Array Edge} {t : Nat} {x y : Operand} : isFree ⟨d, .index t x y, ty, ps, af, gd⟩ = false := rfl
theorem free_build {gd : Option (Nat × Bool)} {af : Array Edge} {t : Nat} {p : Array (Nat × Operand)} : isFree ⟨d, .build t p, ty, ps, af, gd⟩ = false := rfl
theorem free_mkf {gd : Option (Nat × Bool)} {af : Array Edge} {f : Go.Fn} {p q : Array Operand} : isFree ⟨d, .makeFunc f p q, ty, ps, af, gd⟩ = false := rfl
theorem free_pick {gd : Option (Nat × Bool)} {af : Array Edge} {c x y : Operand} : isFree ⟨d, .pick c x y, ty, ps, af, gd⟩ = false := rfl
theorem free_mks {gd : Option (Nat × Bool)} {af : Array Edge} {t : Nat} {x y : Operand} : isFree ⟨d, .makeSlice t x y, ty, ps, af, gd⟩ = false := rfl
theorem free_slice {gd : Option (Nat × Bool)} {af : Array Edge} {t : Nat} {x : Operand} {lo hi mx : Option Operand} : isFree ⟨d, .slice t x lo hi mx, ty, ps, af, gd⟩ = false := rfl
theorem boxOf_own {i o : Nat} : boxOf (some (.c (.ptr (.own i o)))) = some i := rfl
theorem boxOf_giv {j : Nat} : boxOf (some (.c (.ptr (.giv j)))) = none := rfl
theorem otherB_s {b c : Nat} : otherB b (some c) = !Nat.beq c b := rfl
theorem otherB_n {b : Nat} : otherB b none = false := rfl
theorem spares_s {p : Bool} {l : Option Nat} {b : Nat} : spares p l (some (some b)) = (p || otherB b l) := rfl
theorem spares_a {p : Bool} {l : Option Nat} : spares p l (some none) = p := rfl
theorem otherT_s {b : Nat} {l : Option Nat} : otherT (some b) l = otherB b l := rfl
theorem otherT_n {l : Option Nat} : otherT none l = false := rfl
theorem spares_n {p : Bool} {l : Option Nat} : spares p l none = true := rfl
theorem ldAt_0 {x : Option Nat} {r : Lds} : ldAt (x :: r) 0 = x := rfl
theorem ldAt_s {x : Option Nat} {r : Lds} {n : Nat} : ldAt (x :: r) (n + 1) = ldAt r n := rfl
theorem pure_fieldAddr {t f : Nat} {x : Operand} : isPure (.fieldAddr t x f) = true := rfl
theorem pure_field {t f : Nat} {x : Operand} : isPure (.field t x f) = true := rfl
theorem pure_nil {x : Operand} : isPure (.nilCheck x) = true := rfl
theorem pure_indexAddr {t : Nat} {x y : Operand} : isPure (.indexAddr t x y) = true := rfl
theorem pure_index {t : Nat} {x y : Operand} : isPure (.index t x y) = true := rfl
theorem pure_load {t : Nat} {x : Operand} : isPure (.load t x) = false := rfl
theorem pure_call {c : Call} : isPure (.call c) = false := rfl
theorem pure_store {t : Nat} {x y : Operand} : isPure (.store t x y) = false := rfl
theorem pure_alloc {t : Nat} : isPure (.alloc t) = false := rfl
theorem pure_box {t : Nat} {x : Operand} : isPure (.box t x) = false := rfl
theorem pure_build {t : Nat} {p : Array (Nat × Operand)} : isPure (.build t p) = false := rfl
end
theorem ifS_t {A : Prop} : ifS true A = A := rfl
theorem bindsA_nil {n : Nat} : bindsA n [] = true := rfl
theorem bindsA_cons {n k : Nat} {gr : Ground} {r : List Edge} : bindsA n (⟨k, gr⟩ :: r) = ((!Region.binds .any ⟨k, gr⟩ || Nat.blt k n) && bindsA n r) := rfl
theorem waitsA_nil {n : Nat} : waitsA n [] = false := rfl
theorem waitsA_cons {n k : Nat} {gr : Ground} {r : List Edge} : waitsA n (⟨k, gr⟩ :: r) = ((Region.binds .any ⟨k, gr⟩ && Nat.beq k n) || waitsA n r) := rfl
theorem allWait_0 {all : List Oper} {l : List Edge} {ws : WS} {ls : Lds} {b : Option Nat} : allWait all l ws ls b 0 = true := rfl
theorem allWait_s {all : List Oper} {l : List Edge} {ws : WS} {ls : Lds} {b : Option Nat} {n : Nat} : allWait all l ws ls b (n + 1) = (allWait all l ws ls b n && elseW all l n (waitsA n l || pureAt all n || isW n ws || otherT b (ldAt ls n))) := rfl
theorem elseW_t {all : List Oper} {l : List Edge} {n : Nat} : elseW all l n true = true := rfl
theorem elseW_f {all : List Oper} {l : List Edge} {n : Nat} : elseW all l n false = byA all l n all.length := rfl
theorem byA_0 {all : List Oper} {l : List Edge} {n : Nat} : byA all l n 0 = false := rfl
theorem byA_s {all : List Oper} {l : List Edge} {n k : Nat} : byA all l n (k + 1) = byC all n k (byA all l n k) (waitsA k l) := rfl
theorem byC_t {all : List Oper} {n k : Nat} {r : Bool} : byC all n k r true = (waitsAt all k n || r) := rfl
theorem byC_f {all : List Oper} {n k : Nat} {r : Bool} : byC all n k r false = r := rfl
theorem wat_0 {d : Option Tmp} {op : Op} {ty : TypeId} {ps : String} {l : List Edge} {gd : Option (Nat × Bool)} {r : List Oper} {i : Nat} : waitsAt (⟨d, op, ty, ps, l.toArray, gd⟩ :: r) 0 i = waitsA i l := by
  rw [waitsA_eq]; rfl
theorem wat_s {o : Oper} {r : List Oper} {k i : Nat} : waitsAt (o :: r) (k + 1) i = waitsAt r k i := rfl
theorem isW_nil {n : Nat} : isW n [] = false := rfl
theorem isW_cons {n k : Nat} {st : Option (Option Nat)} {h : Heap} {r : WS} : isW n ((k, st, h) :: r) = (Nat.beq k n || isW n r) := rfl
theorem okA_nil {op : Op} {ld : Option Nat} {l : List Edge} : okA op ld l [] = true := rfl
theorem okA_cons {op : Op} {ld : Option Nat} {l : List Edge} {k : Nat} {st : Option (Option Nat)} {h : Heap} {r : WS} : okA op ld l ((k, st, h) :: r) = (waitsA k l || (spares (isPure op) ld st && okA op ld l r)) := rfl
theorem headW_nil {l : List Edge} : headW l [] = true := rfl
theorem headW_cons {l : List Edge} {k : Nat} {st : Option (Option Nat)} {h : Heap} {r : WS} : headW l ((k, st, h) :: r) = waitsA k l := rfl
theorem headH_nil {h : Heap} : headH h [] = h := rfl
theorem headH_cons {h h1 : Heap} {k : Nat} {st : Option (Option Nat)} {r : WS} : headH h ((k, st, h1) :: r) = h1 := rfl
theorem pure_0 {o : Oper} {r : List Oper} : pureAt (o :: r) 0 = isPure o.op := rfl
theorem pure_s {o : Oper} {r : List Oper} {n : Nat} : pureAt (o :: r) (n + 1) = pureAt r n := rfl
theorem pure_move {x : Operand} : isPure (.move x) = true := rfl
theorem pure_assign {x : Operand} : isPure (.assign x) = true := rfl
theorem pure_bin {op : BinOp} {t t' : Nat} {x y : Operand} : isPure (.binOp op t x y t') = true := rfl
theorem pure_un {op : UnOp} {t : Nat} {x : Operand} : isPure (.unOp op t x) = true := rfl
theorem pure_conv {t t' : Nat} {x : Operand} : isPure (.convert t t' x) = pureTy t' := rfl
theorem pureTy_eq {t : Nat} : pureTy t = inL pureTys t := rfl
theorem pureTys_eq : pureTys = [2, 3, 5, 6, 12, 21, 64, 66, 126, 163, 164, 166, 167] := rfl
theorem inL_nil {t : Nat} : inL [] t = false := rfl
theorem inL_cons {t a : Nat} {r : List Nat} : inL (a :: r) t = (Nat.beq t a || inL r t) := rfl
theorem pure_ext {x : Operand} {i : Nat} : isPure (.extract x i) = true := rfl
theorem binds_data {k : Nat} : Region.binds .any ⟨k, .data⟩ = true := rfl
theorem binds_chain {k : Nat} : Region.binds .any ⟨k, .chain⟩ = true := rfl
theorem binds_guard {k : Nat} : Region.binds .any ⟨k, .guard⟩ = true := rfl
theorem binds_phase {k : Nat} : Region.binds .any ⟨k, .phase⟩ = true := rfl
theorem binds_text {k : Nat} {x : Departure} : Region.binds .any ⟨k, .textOnly x⟩ = false := rfl
theorem binds_gc {k : Nat} {x : Departure} : Region.binds .any ⟨k, .gcOnly x⟩ = false := rfl
theorem heapA_nil {h : Heap} {l : List Edge} : heapA h l [] = h := rfl
theorem heapA_cons {h h1 : Heap} {k : Nat} {st : Option (Option Nat)} {l : List Edge} {r : WS} : heapA h l ((k, st, h1) :: r) = bif waitsA k l then h1 else heapA h l r := rfl
theorem sameLen_self {α : Type} {l : List α} : sameLen l l = true := by
  induction l with
  | nil => rfl
  | cons x r ih => exact ih
theorem sameLen_nil {α : Type} : sameLen ([] : List α) [] = true := rfl
theorem sameLen_cons {α : Type} {x y : α} {a b : List α} : sameLen (x :: a) (y :: b) = sameLen a b := rfl
theorem sameLen_l {α : Type} {x : α} {a : List α} : sameLen (x :: a) [] = false := rfl
theorem sameLen_set {α : Type} {l : List α} {i : Nat} {x : α} : sameLen (l.set i x) l = true := by
  induction l generalizing i with
  | nil => rfl
  | cons y r ih => cases i with
    | zero => simp only [List.set_cons_zero, sameLen_cons, sameLen_self]
    | succ i => simp only [List.set_cons_succ, sameLen_cons, ih]
def entC (b : Bool) (v : Option (Option (Nat × Option SV))) (r : Env) : Env := bif b then (match v with
  | some (some x) => x :: r
  | _ => r) else r
theorem entries_nil {vals : Vals} : entries vals [] = [] := rfl
theorem entries_cons {vals : Vals} {k : Nat} {gr : Ground} {r : List Edge} : entries vals (⟨k, gr⟩ :: r) = entC (Region.binds .any ⟨k, gr⟩) vals[k]? (entries vals r) := by
  simp only [entries, entC, Bool.cond_eq_ite]; rfl
theorem entC_f {v : Option (Option (Nat × Option SV))} {r : Env} : entC false v r = r := rfl
theorem entC_t {x : Nat × Option SV} {r : Env} : entC true (some (some x)) r = x :: r := rfl
theorem entC_n {r : Env} : entC true (some none) r = r := rfl
/-- The same by a list of edges. -/
def cntA (l : List Edge) : Nat → Nat
  | 0 => 0
  | k + 1 => bif waitsA k l then cntA l k + 1 else cntA l k
theorem cntA_0 {l : List Edge} : cntA l 0 = 0 := rfl
theorem cntA_s {l : List Edge} {k : Nat} : cntA l (k + 1) = bif waitsA k l then cntA l k + 1 else cntA l k := rfl
theorem cntA_eq {o : Oper} : ∀ (k : Nat), cntA o.after.toList k = cntW o k
  | 0 => rfl
  | k + 1 => by
    simp only [cntA, cntW, cntA_eq k]
    have : waitsA k o.after.toList = waitsFor o k := by rw [waitsA_eq]; rfl
    rw [this]
def maskC (d : Nat) (r : Env) : Bool → Env
  | true => r
  | false => (d, none) :: r
def maskB (n : Nat) (l : List Edge) (d : Nat) (r : Env) : Bool → Env
  | true => maskC d r (Nat.ble n (cntA l n + 1))
  | false => (d, none) :: r
theorem maskC_t {d : Nat} {r : Env} : maskC d r true = r := rfl
theorem maskC_f {d : Nat} {r : Env} : maskC d r false = (d, none) :: r := rfl
theorem maskB_t {n d : Nat} {l : List Edge} {r : Env} : maskB n l d r true = maskC d r (Nat.ble n (cntA l n + 1)) := rfl
theorem maskB_f {n d : Nat} {l : List Edge} {r : Env} : maskB n l d r false = (d, none) :: r := rfl
theorem dstsW_nil {n : Nat} : dstsW n [] = [] := rfl
theorem dstsW_no {n : Nat} {gd : Option (Nat × Bool)} {op : Op} {ty : TypeId} {ps : String} {af : Array Edge} {r : List Oper} : dstsW n (⟨none, op, ty, ps, af, gd⟩ :: r) = dstsW n r := rfl
theorem dstsW_some {n : Nat} {gd : Option (Nat × Bool)} {d : Nat} {op : Op} {ty : TypeId} {ps : String} {af : Array Edge} {r : List Oper} (h : isAsg op = false) : dstsW n (⟨some d, op, ty, ps, af, gd⟩ :: r) = (d, none) :: dstsW n r := by
  simp only [dstsW, lastOf, h, Bool.false_and, cond_false]
theorem dstsW_asg {n : Nat} {gd : Option (Nat × Bool)} {d : Nat} {x : Operand} {ty : TypeId} {ps : String} {l : List Edge} {r : List Oper} : dstsW n (⟨some d, .assign x, ty, ps, l.toArray, gd⟩ :: r) = maskB n l d (dstsW n r) (Nat.ble n (l.length + 1)) := by
  have e := @cntA_eq ⟨some d, .assign x, ty, ps, l.toArray, gd⟩ n
  have e' : cntA l n = cntW ⟨some d, .assign x, ty, ps, l.toArray, gd⟩ n := by rw [← e]
  simp only [dstsW, lastOf, isAsg, Bool.true_and]
  cases h1 : Nat.ble n (l.length + 1) with
  | false => simp [maskB, h1]
  | true =>
    simp only [maskB, h1, Bool.true_and, e']
    cases Nat.ble n (cntW ⟨some d, .assign x, ty, ps, l.toArray, gd⟩ n + 1) <;> rfl
theorem asg_move {x : Operand} : isAsg (.move x) = false := rfl
theorem asg_pick {x : Operand} {y : Operand} {z : Operand} : isAsg (.pick x y z) = false := rfl
theorem asg_box {t : Nat} {x : Operand} : isAsg (.box t x) = false := rfl
theorem asg_load {t : Nat} {x : Operand} : isAsg (.load t x) = false := rfl
theorem asg_store {t : Nat} {x : Operand} {y : Operand} : isAsg (.store t x y) = false := rfl
theorem asg_bin {b : BinOp} {t : Nat} {x : Operand} {y : Operand} {u : Nat} : isAsg (.binOp b t x y u) = false := rfl
theorem asg_un {w : UnOp} {t : Nat} {x : Operand} : isAsg (.unOp w t x) = false := rfl
theorem asg_conv {u : Nat} {t : Nat} {x : Operand} : isAsg (.convert u t x) = false := rfl
theorem asg_mkf {fn : Go.Fn} {ax : Array Operand} {ay : Array Operand} : isAsg (.makeFunc fn ax ay) = false := rfl
theorem asg_faddr {t : Nat} {x : Operand} {f : Nat} : isAsg (.fieldAddr t x f) = false := rfl
theorem asg_field {t : Nat} {x : Operand} {f : Nat} : isAsg (.field t x f) = false := rfl
theorem asg_iad {t : Nat} {x : Operand} {y : Operand} : isAsg (.indexAddr t x y) = false := rfl
theorem asg_idx {t : Nat} {x : Operand} {y : Operand} : isAsg (.index t x y) = false := rfl
theorem asg_build {t : Nat} {pr : Array (Nat × Operand)} : isAsg (.build t pr) = false := rfl
theorem asg_bsl {t : Nat} {n : Nat} {pr : Array (Nat × Operand)} : isAsg (.buildSlice t n pr) = false := rfl
theorem asg_mks {t : Nat} {x : Operand} {y : Operand} : isAsg (.makeSlice t x y) = false := rfl
theorem asg_slc {t : Nat} {x : Operand} {ox : Option Operand} {oy : Option Operand} {oz : Option Operand} : isAsg (.slice t x ox oy oz) = false := rfl
theorem asg_ext {x : Operand} {n : Nat} : isAsg (.extract x n) = false := rfl
theorem asg_call {c : Call} : isAsg (.call c) = false := rfl
theorem asg_alloc {t : Nat} : isAsg (.alloc t) = false := rfl
theorem asg_nil {x : Operand} : isAsg (.nilCheck x) = false := rfl
theorem dstsOf_nil : dstsOf [] = [] := rfl
theorem dstsOf_some {gd : Option (Nat × Bool)} {d : Nat} {op : Op} {ty : TypeId} {ps : String} {af : Array Edge} {r : List Oper} : dstsOf (⟨some d, op, ty, ps, af, gd⟩ :: r) = (d, none) :: dstsOf r := rfl
theorem dstsOf_no {gd : Option (Nat × Bool)} {op : Op} {ty : TypeId} {ps : String} {af : Array Edge} {r : List Oper} : dstsOf (⟨none, op, ty, ps, af, gd⟩ :: r) = dstsOf r := rfl
theorem valsEnv_nil : valsEnv [] = [] := rfl
theorem valsEnv_some {x : Nat × Option SV} {r : Vals} : valsEnv (some x :: r) = x :: valsEnv r := rfl
theorem valsEnv_none {r : Vals} : valsEnv (none :: r) = valsEnv r := rfl

/-! ### Types that are looked up -/

def allocO (h : Heap) : Option TD → Option (Option SV × Heap)
  | some d => bif d.zok then some (some (.v (.c (.ptr (.own h.length 0)))), h ++ [d.zero]) else none
  | none => none
theorem alloc_eq {e : Env} {h : Heap} {t : Nat} : doOp T O g e h (.alloc t) = allocO h (T t) := by
  simp only [doOp, allocO]
  cases T t with
  | none => rfl
  | some d => cases hz : d.zok <;> simp [hz]
theorem alloc_pair' {h : Heap} {k1 k2 : IntKind} : allocO h (some (tdPair k1 k2)) = some (some (.v (.c (.ptr (.own h.length 0)))), h ++ [[.int k1 0, .int k2 0]]) := rfl
theorem alloc_int {h : Heap} {k : IntKind} : allocO h (some (tdInt k)) = some (some (.v (.c (.ptr (.own h.length 0)))), h ++ [[.int k 0]]) := rfl
theorem alloc_bool {h : Heap} : allocO h (some tdBool) = some (some (.v (.c (.ptr (.own h.length 0)))), h ++ [[.bool false]]) := rfl
def fillO (h : Heap) : Option (List PC) → Option (Option SV × Heap)
  | some cs => some (some (.v (.agg cs)), h)
  | none => none
def buildO (h : Heap) : Option TD → Option (List (Nat × PC)) → Option (Option SV × Heap)
  | some d, some ps => bif d.agg && d.zok then fillO h (fillP (fun i => if d.cells then some i else d.fields[i]?) d.zero ps) else none
  | _, _ => none
theorem build_eq {e : Env} {h : Heap} {t : Nat} {ps : List (Nat × Operand)} : doOp T O g e h (.build t ps.toArray) = buildO h (T t) (partsP e ps) := by
  simp only [doOp, buildO]
  cases T t with
  | none => rfl
  | some d =>
    cases partsP e ps with
    | none => rfl
    | some l =>
      simp only [Bool.cond_eq_ite, Bool.and_eq_true]
      split
      · generalize fillP (fun i => if d.cells = true then some i else d.fields[i]?) d.zero l = x
        cases x <;> rfl
      · rfl
theorem buildO_t0 {h : Heap} {z0 z1 z2 a : PC} : buildO h (some (tdTri z0 z1 z2)) (some [(0, a)]) = some (some (.v (.agg [a, z1, z2])), h) := rfl
theorem buildO_01 {h : Heap} {k1 k2 : IntKind} {a b : PC} : buildO h (some (tdPair k1 k2)) (some [(0, a), (1, b)]) = some (some (.v (.agg [a, b])), h) := rfl
theorem buildO_0 {h : Heap} {k1 k2 : IntKind} {a : PC} : buildO h (some (tdPair k1 k2)) (some [(0, a)]) = some (some (.v (.agg [a, .int k2 0])), h) := rfl
theorem buildO_1 {h : Heap} {k1 k2 : IntKind} {a : PC} : buildO h (some (tdPair k1 k2)) (some [(1, a)]) = some (some (.v (.agg [.int k1 0, a])), h) := rfl
theorem buildO_n {h : Heap} {k1 k2 : IntKind} : buildO h (some (tdPair k1 k2)) (some []) = some (some (.v (.agg [.int k1 0, .int k2 0])), h) := rfl
theorem buildO_a {h : Heap} {k : IntKind} {a b : PC} : buildO h (some (tdArr k 2)) (some [(0, a), (1, b)]) = some (some (.v (.agg [a, b])), h) := rfl
theorem ble_lit {k n : Nat} : Nat.ble k n = decide (k ≤ n) := by
  cases h : Nat.ble k n with
  | true => have := Nat.le_of_ble_eq_true h; simp [this]
  | false => have : ¬ k ≤ n := fun hh => by rw [Nat.ble_eq_true_of_le hh] at h; cases h
             simp [this]
def conA (i : Nat) : Option (List PC) → Option (List (Nat × List PC)) → Option (List (Nat × List PC))
  | some c, some l => some ((i, c) :: l)
  | _, _ => none
theorem partsA_nil {e : Env} : partsA e [] = some [] := rfl
theorem partsA_cons {e : Env} {i : Nat} {x : Operand} {r : List (Nat × Operand)} : partsA e ((i, x) :: r) = conA i (cellsO (opdA e x)) (partsA e r) := by
  simp only [partsA]
  cases opdA e x with
  | none => rfl
  | some a =>
    cases partsA e r with
    | none => simp only [cellsO, conA]; cases cellsOf a <;> rfl
    | some l => simp only [cellsO, conA]; cases cellsOf a <;> rfl
theorem conA_some {i : Nat} {c : List PC} {l : List (Nat × List PC)} : conA i (some c) (some l) = some ((i, c) :: l) := rfl
/-- Parts in order: all of them, each of z cells. -/
def inOrd (z : Nat) : Nat → List (Nat × List PC) → Bool
  | _, [] => true
  | k, (i, x) :: r => Nat.beq i k && Nat.beq x.length z && inOrd z (k + 1) r
def flatP : List (Nat × List PC) → List PC
  | [] => []
  | (_, x) :: r => x ++ flatP r
theorem flatP_nil : flatP [] = [] := rfl
theorem flatP_cons {i : Nat} {x : List PC} {r : List (Nat × List PC)} : flatP ((i, x) :: r) = x ++ flatP r := rfl
theorem inOrd_nil {z k : Nat} : inOrd z k [] = true := rfl
theorem inOrd_cons {z k i : Nat} {x : List PC} {r : List (Nat × List PC)} : inOrd z k ((i, x) :: r) = (Nat.beq i k && Nat.beq x.length z && inOrd z (k + 1) r) := rfl
theorem fillR_ord {z : Nat} {ez : List PC} (hz : ez.length = z) : ∀ {ps : List (Nat × List PC)} {k : Nat} {pre : List PC}, pre.length = k * z → inOrd z k ps = true →
    fillR z (pre ++ (List.replicate ps.length ez).flatten) ps = some (pre ++ flatP ps)
  | [], k, pre, hp, _ => by simp [fillR, flatP]
  | (i, x) :: r, k, pre, hp, ho => by
    simp only [inOrd, Bool.and_eq_true] at ho
    obtain ⟨⟨h1, h2⟩, h3⟩ := ho
    have e1 := Nat.eq_of_beq_eq_true h1
    have e2 := Nat.eq_of_beq_eq_true h2
    subst e1
    have hl : (List.replicate ((i, x) :: r).length ez).flatten = ez ++ (List.replicate r.length ez).flatten := by rw [List.length_cons, List.replicate_succ, List.flatten_cons]
    rw [hl]
    simp only [fillR]
    rw [if_pos ⟨e2, by simp [hp, hz]⟩]
    have ht : (pre ++ (ez ++ (List.replicate r.length ez).flatten)).take (i * z) = pre := by rw [← hp, List.take_left]
    have hd : (pre ++ (ez ++ (List.replicate r.length ez).flatten)).drop (i * z + z) = (List.replicate r.length ez).flatten := by
      rw [← hp, ← List.drop_drop, List.drop_left, ← hz, List.drop_left]
    rw [ht, hd]
    have ih := fillR_ord hz (ps := r) (k := i + 1) (pre := pre ++ x) (by simp [hp, e2, Nat.succ_mul]) h3
    rw [ih]
    simp [flatP]
/-- A new row. -/
def rowN (h : Heap) (n z : Nat) (cs : List PC) : Option (Option SV × Heap) := some (some (.v (.c (if n = 0 then .emp h.length 0 else .row h.length 0 n z))), h ++ [cs])
theorem rowN_0 {h : Heap} {z : Nat} {cs : List PC} : rowN h 0 z cs = some (some (.v (.c (.emp h.length 0))), h ++ [cs]) := rfl
theorem rowN_s {h : Heap} {n z : Nat} {cs : List PC} : rowN h (n + 1) z cs = some (some (.v (.c (.row h.length 0 (n + 1) z))), h ++ [cs]) := rfl
def bslO (h : Heap) (n : Nat) : Option TD → Option (List (Nat × List PC)) → Option (Option SV × Heap)
  | some d, some ps => if d.row ∧ n ≤ 1000 then (match fillR d.ez1.length ((List.replicate n d.ez1).flatten) ps with
        | some cs => rowN h n d.ez1.length cs
        | none => none) else none
  | _, _ => none
theorem bsl_eq {e : Env} {h : Heap} {t n : Nat} {ps : List (Nat × Operand)} : doOp T O g e h (.buildSlice t n ps.toArray) = bslO h n (T t) (partsA e ps) := by
  simp only [doOp, bslO]
  cases T t with
  | none => rfl
  | some d =>
    cases partsA e ps with
    | none => rfl
    | some l => rfl
def bslR (h : Heap) (z n : Nat) (ps : List (Nat × List PC)) : Bool → Option (Option SV × Heap)
  | true => rowN h n z (flatP ps)
  | false => none
theorem bslO_row {h : Heap} {n : Nat} {z : List PC} {ps : List (Nat × List PC)} (hc : (inOrd z.length 0 ps && Nat.beq ps.length n && Nat.ble n 1000) = true) : bslO h n (some (tdRow z)) (some ps) = rowN h n z.length (flatP ps) := by
  simp only [Bool.and_eq_true] at hc
  obtain ⟨⟨h1, h2⟩, h3⟩ := hc
  have e2 := Nat.eq_of_beq_eq_true h2
  subst e2
  have := fillR_ord (ez := z) rfl (ps := ps) (k := 0) (pre := []) (by simp) h1
  simp only [List.nil_append] at this
  simp only [bslO, tdRow, this]
  rw [if_pos ⟨trivial, Nat.le_of_ble_eq_true h3⟩]
theorem bslO_0 {h : Heap} {z : List PC} : bslO h 0 (some (tdRow z)) (some []) = some (some (.v (.c (.emp h.length 0))), h ++ [[]]) := rfl
def mksO (h : Heap) : Option TD → Option Int → Option Int → Option (Option SV × Heap)
  | some d, some l, some c => if d.row ∧ l = c ∧ 0 ≤ l ∧ l ≤ 1048576 then some (some (.v (.c (if l = 0 then .emp h.length 0 else .row h.length 0 l.toNat d.ez1.length))), h ++ [(List.replicate l.toNat d.ez1).flatten]) else none
  | _, _, _ => none
theorem mks_eq {e : Env} {h : Heap} {t : Nat} {x y : Operand} : doOp T O g e h (.makeSlice t x y) = mksO h (T t) (intO (opdP e x)) (intO (opdP e y)) := by
  simp only [doOp, mksO]
  rfl
theorem intO_int {k : IntKind} {n : Int} : intO (some (.int k n)) = some n := rfl
def slcO (h : Heap) : Option TD → Option AV → Option (Option Int) → Option (Option Int) → Option (Option Int) → Option (Option SV × Heap)
  | some d, some a, some l, some hh, some m => match sliceF d h a (l.getD 0) hh m with
        | some r => some (some (.v r), h)
        | none => none
  | _, _, _, _, _ => none
theorem slc_eq {e : Env} {h : Heap} {t : Nat} {x : Operand} {lo hi mx : Option Operand} : doOp T O g e h (.slice t x lo hi mx) = slcO h (T t) (opdA e x) (optI e lo) (optI e hi) (optI e mx) := by
  simp only [doOp, slcO]
  rfl
theorem optI_none {e : Env} : optI e none = some none := rfl
def optP : Option PC → Option (Option Int)
  | some (.int _ n) => some (some n)
  | _ => none
theorem optI_some {e : Env} {x : Operand} : optI e (some x) = optP (opdP e x) := by
  simp only [optI, optP]; rfl
theorem optP_int {k : IntKind} {n : Int} : optP (some (.int k n)) = some (some n) := rfl
def appO (h : Heap) (m : Addr → Option PC) : Option TD → Option (List AV) → Option (Option SV × Heap)
  | some d, some [a, x] => if d.row then (match rowCells d.ez1.length h m x with
      | some (k, new) => match appF d.ez1.length h a k new with
        | some (r, h') => some (some r, h')
        | none => none
      | none => none) else none
  | _, _ => none
theorem app_eq {e : Env} {h : Heap} {t : Nat} {l : List Operand} {gl : List PC} {gm : Addr → Option PC} : doOp T O ⟨gl, gm⟩ e h (.call ⟨.builtin .append, l.toArray, #[t, t]⟩) = appO h gm (T t) (argsA e l) := by
  simp only [doOp, appO]
  cases ha : argsA e l with
  | none => simp
  | some la =>
    match la with
    | [] => simp
    | [a] => simp
    | [a, x] =>
      simp only
      cases T t with
      | none => rfl
      | some d => simp only [and_true]; rfl
    | a :: x :: y :: r => simp
theorem len_row {d : TD} {i o n z : Nat} : lenF d (.c (.row i o n z)) = if d.row then some n else none := rfl
theorem len_sl {d : TD} {a : Option Addr} {n c : Nat} : lenF d (.c (.p (.sl a n c))) = if d.row then some n else none := rfl
theorem len_emp {d : TD} {i o : Nat} : lenF d (.c (.emp i o)) = if d.row then some 0 else none := rfl
theorem lenO_some {d : TD} {a : AV} : lenO (some [a]) (some d) = (lenF d a).map fun n : Nat => sp (.int .i64 n) := by cases h : lenF d a <;> simp [lenO, h]
theorem row_row {z : List PC} : (tdRow z).row = true := rfl
theorem row_ez {z : List PC} : (tdRow z).ez1 = z := rfl
theorem row_size {z : List PC} : (tdRow z).size = 1 := rfl
theorem row_agg {z : List PC} : (tdRow z).agg = false := rfl
theorem pair_agg {k1 k2 : IntKind} : (tdPair k1 k2).agg = true := rfl
theorem int_agg {k : IntKind} : (tdInt k).agg = false := rfl
theorem one_agg : tdOne.agg = false := rfl
theorem bool_agg : tdBool.agg = false := rfl
theorem str_agg : tdStr.agg = false := rfl
def idxO (h : Heap) : Option TD → Option AV → Option PC → Option (Option SV × Heap)
  | some d, some (.agg xs), some (.int _ j) => bif d.cells && d.agg && decide (0 ≤ j) && decide (j < d.len) then (match xs[j.toNat]? with
        | some c => some (some (sp c), h)
        | none => none) else none
  | some d, some (.c (.p (.str s))), some (.int _ j) => bif d.isStr && decide (0 ≤ j) then (match s[j.toNat]? with
        | some b => some (some (sp (.int .u8 b.toNat)), h)
        | none => none) else none
  | _, _, _ => none
theorem idx_eq {e : Env} {h : Heap} {t : Nat} {x ix : Operand} : doOp T O g e h (.index t x ix) = idxO h (T t) (opdA e x) (opdP e ix) := by
  simp only [doOp]
  split
  · rename_i xs k j d h1 h2 h3
    rw [h1, h2, h3]
    simp only [idxO, Bool.cond_eq_ite, Bool.and_eq_true, decide_eq_true_eq, and_assoc]
    rfl
  · rename_i s k j d h1 h2 h3
    rw [h1, h2, h3]
    simp only [idxO, Bool.cond_eq_ite, Bool.and_eq_true, decide_eq_true_eq]
    rfl
  · rename_i hn hn2
    unfold idxO
    split
    · rename_i h1 h2 h3; exact absurd h1 (hn _ _ _ _ h2 h3)
    · rename_i h1 h2 h3; exact absurd h1 (hn2 _ _ _ _ h2 h3)
    · rfl
theorem idxO_0 {h : Heap} {n : Nat} {a : PC} {k k' : IntKind} {r : List PC} : idxO h (some (tdArr k' (n + 1))) (some (.agg (a :: r))) (some (.int k 0)) = some (some (sp a), h) := by
  simp [idxO, tdArr]
theorem idxO_2 {h : Heap} {i : Int} {a b : PC} {k k' : IntKind} (hi : i = 0 ∨ i = 1) : idxO h (some (tdArr k' 2)) (some (.agg [a, b])) (some (.int k i)) = some (some (sp (if i = 0 then a else b)), h) := by
  rcases hi with rfl | rfl <;> rfl
def iadO (h : Heap) : Option TD → Option AV → Option PC → Option (Option SV × Heap)
  | some d, some (.c (.row i o n z)), some (.int _ j) => if d.row ∧ z = d.ez1.length ∧ 0 ≤ j ∧ j < n then some (some (.v (.c (.ptr (.own i (o + j.toNat * z))))), h) else none
  | some d, some (.c (.p (.sl (some a) n _))), some (.int _ j) => if d.row ∧ 0 ≤ j ∧ j < n then some (some (.v (.c (.ptr (.abs (a.add (j.toNat * d.ez1.length)))))), h) else none
  | _, _, _ => none
def nilV (h : Heap) : Option AV → Option (Option SV × Heap)
  | some (.c (.ptr q)) => some (some (.v (.c (.ptr q))), h)
  | _ => none
theorem nil_eq {e : Env} {h : Heap} {x : Operand} : doOp T O g e h (.nilCheck x) = nilV h (opdA e x) := by
  simp only [doOp, nilV]
  rfl
theorem nilV_ptr {h : Heap} {q : Pt} : nilV h (some (.c (.ptr q))) = some (some (.v (.c (.ptr q))), h) := rfl
theorem iad_eq {e : Env} {h : Heap} {t : Nat} {x ix : Operand} : doOp T O g e h (.indexAddr t x ix) = iadO h (T t) (opdA e x) (opdP e ix) := by
  simp only [doOp]
  split
  · rename_i h1 h2 h3
    rw [h1, h2, h3]; rfl
  · rename_i h1 h2 h3
    rw [h1, h2, h3]; rfl
  · rename_i hn hn2
    unfold iadO
    split
    · rename_i h1 h2 h3; exact absurd h1 (hn _ _ _ _ _ _ _ h2 h3)
    · rename_i h1 h2 h3; exact absurd h1 (hn2 _ _ _ _ _ _ h2 h3)
    · rfl
theorem iadO_row {h : Heap} {z : List PC} {k : IntKind} {i o n z' : Nat} {j : Int} (hz : Nat.beq z' z.length = true) (hj : (decide (0 ≤ j) && decide (j < n)) = true) : iadO h (some (tdRow z)) (some (.c (.row i o n z'))) (some (.int k j)) = some (some (.v (.c (.ptr (.own i (o + j.toNat * z'))))), h) := by
  have e := Nat.eq_of_beq_eq_true hz
  simp only [Bool.and_eq_true, decide_eq_true_eq] at hj
  simp only [iadO, tdRow]
  rw [if_pos ⟨trivial, e, hj.1, hj.2⟩]
theorem iadO_sl {h : Heap} {z : List PC} {k : IntKind} {a : Addr} {n c : Nat} {j : Int} (hj : (decide (0 ≤ j) && decide (j < n)) = true) : iadO h (some (tdRow z)) (some (.c (.p (.sl (some a) n c)))) (some (.int k j)) = some (some (.v (.c (.ptr (.abs (a.add (j.toNat * z.length)))))), h) := by
  simp only [Bool.and_eq_true, decide_eq_true_eq] at hj
  simp only [iadO, tdRow]
  rw [if_pos ⟨trivial, hj.1, hj.2⟩]
/-- Two values of a struct or two truth values are compared. -/
def eqT (w : Bool) : Option TD → AV → AV → Option SV
  | some d, .agg xs, .agg ys => if d.eqk = [] then none else match ints d.eqk xs, ints d.eqk ys with
    | some l, some m => some (sp (.bool ((l == m) == w)))
    | _, _ => none
  | some d, .c (.p (.bool a)), .c (.p (.bool b)) => if d.isBool then some (sp (.bool ((a == b) == w))) else none
  | _, _, _ => none
theorem binP_eql' {t : Nat} {xs ys : List PC} : binO T .eql t (some (.agg xs)) (some (.agg ys)) = eqT true (T t) (.agg xs) (.agg ys) := by
  simp only [binO, bin, eqT]
  cases T t with
  | none => rfl
  | some d =>
    by_cases hd : d.eqk = []
    · simp [hd]
    · simp only [hd, if_false]
      cases ints d.eqk xs <;> cases ints d.eqk ys <;> simp
theorem binP_neq' {t : Nat} {xs ys : List PC} : binO T .neq t (some (.agg xs)) (some (.agg ys)) = eqT false (T t) (.agg xs) (.agg ys) := by
  simp only [binO, bin, eqT]
  cases T t with
  | none => rfl
  | some d =>
    by_cases hd : d.eqk = []
    · simp [hd]
    · simp only [hd, if_false]
      cases ints d.eqk xs <;> cases ints d.eqk ys <;> simp [bne]
theorem binB_eql' {t : Nat} {x y : Bool} : binO T .eql t (some (.c (.p (.bool x)))) (some (.c (.p (.bool y)))) = eqT true (T t) (.c (.p (.bool x))) (.c (.p (.bool y))) := by
  simp only [binO, bin, eqT]
  cases T t with
  | none => rfl
  | some d => cases hd : d.isBool <;> simp [hd]
theorem binB_neq' {t : Nat} {x y : Bool} : binO T .neq t (some (.c (.p (.bool x)))) (some (.c (.p (.bool y)))) = eqT false (T t) (.c (.p (.bool x))) (.c (.p (.bool y))) := by
  simp only [binO, bin, eqT]
  cases T t with
  | none => rfl
  | some d => cases hd : d.isBool <;> simp [hd, bne]
def eqW (w : Bool) : Option TD → Option SV
  | some d => if d.row then some (sp (.bool (false == w))) else none
  | none => none
theorem binW_eql {t : Nat} {i o n z : Nat} : binO T .eql t (some (.c (.row i o n z))) (some (.c (.p (.sl none 0 0)))) = eqW true (T t) := by
  simp only [binO, bin, eqW]
  cases T t with
  | none => rfl
  | some d => cases hd : d.row <;> simp [hd]
theorem eqW_r {z : List PC} : eqW true (some (tdRow z)) = some (sp (.bool false)) := rfl
theorem eqT_pt {k1 k2 : IntKind} {x1 x2 y1 y2 : Int} : eqT true (some (tdPair k1 k2)) (.agg [.int k1 x1, .int k2 x2]) (.agg [.int k1 y1, .int k2 y2]) = some (sp (.bool (decide (x1 = y1) && decide (x2 = y2)))) := by
  simp [eqT, tdPair, ints, intBeq]
theorem eqT_pf {k1 k2 : IntKind} {x1 x2 y1 y2 : Int} : eqT false (some (tdPair k1 k2)) (.agg [.int k1 x1, .int k2 x2]) (.agg [.int k1 y1, .int k2 y2]) = some (sp (.bool (!(decide (x1 = y1) && decide (x2 = y2))))) := by
  simp [eqT, tdPair, ints, intBeq]
theorem eqT_bt {x y : Bool} : eqT true (some tdBool) (.c (.p (.bool x))) (.c (.p (.bool y))) = some (sp (.bool (x == y))) := by
  simp [eqT, tdBool]
theorem eqT_bf {x y : Bool} : eqT false (some tdBool) (.c (.p (.bool x))) (.c (.p (.bool y))) = some (sp (.bool (!(x == y)))) := by
  simp [eqT, tdBool]
end
end Go.Proofs.YtcnapkdccjibpaaGreatDoor.Eng
