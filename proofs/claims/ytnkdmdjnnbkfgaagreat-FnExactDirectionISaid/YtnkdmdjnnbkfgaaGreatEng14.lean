/- More rules by which a proof walks: regions that draw their order, loops, arrays and rows. -/
import Derived.Test.YtnkdmdjnnbkfgaaGreatEng13
namespace Go.Proofs.YtnkdmdjnnbkfgaaGreat.Eng
open Go Go.RowKit
set_option linter.unusedVariables false

section
variable {T : Tab} {O : Orc} {g : List PC}

/-! ### Loops -/

def loopK (A : Env → Heap → Prop) (Q : Ex → St → Prop) (e : Ex) (s : St) : Prop := match e with
  | .normal => A s.env s.heap
  | .ret => Q .ret s
  | .exit i => Q (.exit i) s
theorem loopK_n {A : Env → Heap → Prop} {Q : Ex → St → Prop} {e : Env} {h : Heap} : loopK A Q .normal ⟨e, h⟩ = A e h := rfl
theorem loopK_r {A : Env → Heap → Prop} {Q : Ex → St → Prop} {s : St} : loopK A Q .ret s = Q .ret s := rfl
theorem loopK_e {A : Env → Heap → Prop} {Q : Ex → St → Prop} {s : St} {i : Nat} : loopK A Q (.exit i) s = Q (.exit i) s := rfl
theorem seqK_n {N : St → Prop} {Q : Ex → St → Prop} {s : St} : seqK N Q .normal s = N s := rfl
theorem seqK_r {N : St → Prop} {Q : Ex → St → Prop} {s : St} : seqK N Q .ret s = Q .ret s := rfl
theorem seqK_e {N : St → Prop} {Q : Ex → St → Prop} {s : St} {i : Nat} : seqK N Q (.exit i) s = Q (.exit i) s := rfl

/-- Code asks for nothing but what it is asked for. -/
theorem seqK_loopK {N : St → Prop} {Q : Ex → St → Prop} : seqK N Q = loopK (fun e h => N ⟨e, h⟩) Q := by
  funext e s; obtain ⟨a, b⟩ := s; cases e <;> rfl

/-- A loop by a measure and what holds at its head. -/
theorem go_loop {α : Type} {body : Code} {Q : Ex → St → Prop} (μ : α → Nat) (Inv : α → Env → Heap → Prop) (a : α) {e : Env} {h : Heap} (h0 : Inv a e h)
    (step : ∀ (X : St → Prop) (a : α) (e : Env) (h : Heap), Inv a e h → (∀ b e' h', μ b < μ a → Inv b e' h' → X ⟨e', h'⟩) → goS T O g body (some ⟨e, h⟩) (seqK X Q)) : goS T O g (.loop body) (some ⟨e, h⟩) Q := by
  intro X hX
  have : ∀ n a e h, μ a < n → Inv a e h → X ⟨e, h⟩ := by
    intro n
    induction n with
    | zero => intro a e h hn; omega
    | succ n ih => exact fun a e h hn hi => hX _ (step X a e h hi (fun b e' h' hb hi' => ih b e' h' (by omega) hi'))
  exact this (μ a + 1) a e h (by omega) h0

/-! ### Regions that draw their order -/

def bindsA (n : Nat) : List Edge → Bool
  | [] => true
  | e :: r => (!Region.binds .any e || Nat.blt e.on n) && bindsA n r
theorem bindsA_eq {n : Nat} {l : List Edge} : bindsA n l = l.all fun e => !Region.binds .any e || Nat.blt e.on n := by
  induction l with
  | nil => rfl
  | cons e r ih => simp [bindsA, ih]
theorem beqN (a b : Nat) : Nat.beq a b = (a == b) := by
  by_cases h : a = b
  · subst h; simp [Nat.beq_refl]
  · cases hb : Nat.beq a b with
    | true => exact absurd (Nat.eq_of_beq_eq_true hb) h
    | false => simp [h]
def waitsA (k : Nat) : List Edge → Bool
  | [] => false
  | e :: r => (Region.binds .any e && Nat.beq e.on k) || waitsA k r
theorem waitsA_eq {k : Nat} {l : List Edge} : waitsA k l = l.any fun e => Region.binds .any e && e.on == k := by
  induction l with
  | nil => rfl
  | cons e r ih => simp only [waitsA, ih, List.any_cons, beqN]
def heapA (h : Heap) (l : List Edge) : WS → Heap
  | [] => h
  | (k, _, h1) :: r => bif waitsA k l then h1 else heapA h l r
theorem heapA_eq {ws : WS} {h : Heap} {o : Oper} : heapA h o.after.toList ws = heapN h o ws := by
  induction ws with
  | nil => rfl
  | cons x r ih => obtain ⟨k, st, h1⟩ := x; simp only [heapA, heapN, waitsA_eq, waitsFor, Bool.cond_eq_ite, ih]; rfl
def okA (op : Op) (ld : Option Nat) (l : List Edge) : WS → Bool
  | [] => true
  | (k, st, _) :: r => waitsA k l || (spares (isPure op) ld st && okA op ld l r)
theorem okA_eq {ws : WS} {o : Oper} {ld : Option Nat} : okA o.op ld o.after.toList ws = okN o ld ws := by
  induction ws with
  | nil => rfl
  | cons x r ih => obtain ⟨k, st, h1⟩ := x; simp only [okA, okN, waitsA_eq, waitsFor, ih]
def headW (l : List Edge) : WS → Bool
  | [] => true
  | (k, _, _) :: _ => waitsA k l
theorem headW_eq {ws : WS} {o : Oper} : headW o.after.toList ws = waitsHead o ws := by
  cases ws with
  | nil => rfl
  | cons x r => obtain ⟨k, st, h1⟩ := x; simp only [headW, waitsHead, waitsA_eq, waitsFor]
def allWait (all : List Oper) (l : List Edge) (ws : WS) (ls : Lds) (b : Nat) : Nat → Bool
  | 0 => true
  | n + 1 => allWait all l ws ls b n && (waitsA n l || pureAt all n || isW n ws || otherB b (ldAt ls n))
theorem allWait_eq {all : List Oper} {o : Oper} {ws : WS} {ls : Lds} {b n : Nat} : allWait all o.after.toList ws ls b n = storeOk all o ws ls b n := by
  unfold storeOk
  induction n with
  | zero => rfl
  | succ n ih => rw [allWait, ih, List.range_succ, List.all_append, waitsA_eq]; simp [waitsFor]

def drawN (T : Tab) (O : Orc) (g : List PC) (all : List Oper) (env : Env) (h : Heap) (d : Option Tmp) (l : List Edge) (r : List Oper) (vals : Vals) (m : WS) (ls : Lds) (ld : Option Nat) (Q : Ex → St → Prop) : Option St → Prop
  | some ⟨(_, v) :: _, h'⟩ => bif sameLen h' (heapA h l m) then drawsS T O g all env h r (vals ++ [d.map (·, v)]) m (ls ++ [ld]) Q
      else ifS (headW l m) (drawsS T O g all env h r (vals ++ [d.map (·, v)]) ((vals.length, none, h') :: m) (ls ++ [none]) Q)
  | _ => False
def drawE (T : Tab) (O : Orc) (g : List PC) (all : List Oper) (env : Env) (h : Heap) (d : Option Tmp) (l : List Edge) (r : List Oper) (vals : Vals) (m : WS) (ls : Lds) (b : Option Nat) (Q : Ex → St → Prop) : Option St → Prop
  | some ⟨(_, v) :: _, h'⟩ => boxK b fun b => ifS (headW l m && allWait all l m ls b vals.length) (drawsS T O g all env h r (vals ++ [d.map (·, v)]) ((vals.length, some b, h') :: m) (ls ++ [none]) Q)
  | _ => False

section
variable {all r : List Oper} {d : Option Tmp} {ty : TypeId} {ps : String} {l : List Edge} {env : Env} {h : Heap} {vals : Vals} {m : WS} {ls : Lds} {Q : Ex → St → Prop}
theorem dr_gen {op : Op} (hs : isStore op = false) : drawsS T O g all env h (⟨d, op, ty, ps, l.toArray, none⟩ :: r) vals m ls Q =
    ifS (bindsA vals.length l && okA op (ldOf (entries vals l ++ (dstsOf all ++ env)) op) l m) (exec T O g (some 0) op (entries vals l ++ (dstsOf all ++ env)) (heapA h l m) (drawN T O g all env h d l r vals m ls (ldOf (entries vals l ++ (dstsOf all ++ env)) op) Q)) := by
  simp only [drawsS, envD, bindsA_eq]
  have hh : heapN h ⟨d, op, ty, ps, l.toArray, none⟩ m = heapA h l m := (heapA_eq (o := ⟨d, op, ty, ps, l.toArray, none⟩)).symm
  have ho : okN ⟨d, op, ty, ps, l.toArray, none⟩ (ldOf (entries vals l ++ (dstsOf all ++ env)) op) m = okA op (ldOf (entries vals l ++ (dstsOf all ++ env)) op) l m := (okA_eq (o := ⟨d, op, ty, ps, l.toArray, none⟩)).symm
  have hw : waitsHead ⟨d, op, ty, ps, l.toArray, none⟩ m = headW l m := (headW_eq (o := ⟨d, op, ty, ps, l.toArray, none⟩)).symm
  rw [hh, ho, hw]
  congr 1
  congr 1
  funext s'
  match s' with
  | none => rfl
  | some ⟨[], h'⟩ => rfl
  | some ⟨(t, v) :: e, h'⟩ =>
    simp only [valOf, hs, cond_false, drawN]
theorem dr_nil : drawsS T O g all env h [] vals m ls Q = Q .normal ⟨valsEnv vals ++ env, headH h m⟩ := rfl
theorem dr_move {x : Operand} : drawsS T O g all env h (⟨d, .move x, ty, ps, l.toArray, none⟩ :: r) vals m ls Q =
    ifS (bindsA vals.length l && okA (.move x) none l m) (drawN T O g all env h d l r vals m ls none Q (st1 (some 0) (entries vals l ++ (dstsOf all ++ env)) (heapA h l m) (opd (entries vals l ++ (dstsOf all ++ env)) x))) := dr_gen rfl
theorem dr_assign {x : Operand} : drawsS T O g all env h (⟨d, .assign x, ty, ps, l.toArray, none⟩ :: r) vals m ls Q =
    ifS (bindsA vals.length l && okA (.assign x) none l m) (drawN T O g all env h d l r vals m ls none Q (st1 (some 0) (entries vals l ++ (dstsOf all ++ env)) (heapA h l m) (opd (entries vals l ++ (dstsOf all ++ env)) x))) := dr_gen rfl
theorem dr_box {t : Nat} {x : Operand} : drawsS T O g all env h (⟨d, .box t x, ty, ps, l.toArray, none⟩ :: r) vals m ls Q =
    ifS (bindsA vals.length l && okA (.box t x) none l m) (drawN T O g all env h d l r vals m ls none Q (stH (some 0) (entries vals l ++ (dstsOf all ++ env)) (boxO (heapA h l m) (cellsO (opdA (entries vals l ++ (dstsOf all ++ env)) x))))) := dr_gen rfl
theorem dr_load {t : Nat} {x : Operand} : drawsS T O g all env h (⟨d, .load t x, ty, ps, l.toArray, none⟩ :: r) vals m ls Q =
    ifS (bindsA vals.length l && okA (.load t x) (boxOf (opdA (entries vals l ++ (dstsOf all ++ env)) x)) l m) (drawN T O g all env h d l r vals m ls (boxOf (opdA (entries vals l ++ (dstsOf all ++ env)) x)) Q (st1 (some 0) (entries vals l ++ (dstsOf all ++ env)) (heapA h l m) (loadO g (heapA h l m) (opdA (entries vals l ++ (dstsOf all ++ env)) x) (T t)))) := dr_gen rfl
theorem dr_bin {op : BinOp} {t u : Nat} {x y : Operand} : drawsS T O g all env h (⟨d, .binOp op t x y u, ty, ps, l.toArray, none⟩ :: r) vals m ls Q =
    ifS (bindsA vals.length l && okA (.binOp op t x y u) none l m) (drawN T O g all env h d l r vals m ls none Q (st1 (some 0) (entries vals l ++ (dstsOf all ++ env)) (heapA h l m) (binO T op t (opdA (entries vals l ++ (dstsOf all ++ env)) x) (opdA (entries vals l ++ (dstsOf all ++ env)) y)))) := dr_gen rfl
theorem dr_un {op : UnOp} {t : Nat} {x : Operand} : drawsS T O g all env h (⟨d, .unOp op t x, ty, ps, l.toArray, none⟩ :: r) vals m ls Q =
    ifS (bindsA vals.length l && okA (.unOp op t x) none l m) (drawN T O g all env h d l r vals m ls none Q (st1 (some 0) (entries vals l ++ (dstsOf all ++ env)) (heapA h l m) (unO op (opdP (entries vals l ++ (dstsOf all ++ env)) x)))) := dr_gen rfl
theorem dr_conv {u t : Nat} {x : Operand} : drawsS T O g all env h (⟨d, .convert u t x, ty, ps, l.toArray, none⟩ :: r) vals m ls Q =
    ifS (bindsA vals.length l && okA (.convert u t x) none l m) (drawN T O g all env h d l r vals m ls none Q (st1 (some 0) (entries vals l ++ (dstsOf all ++ env)) (heapA h l m) (convO (opdP (entries vals l ++ (dstsOf all ++ env)) x) (T u) (T t)))) := dr_gen rfl
theorem dr_fieldAddr {t f : Nat} {x : Operand} : drawsS T O g all env h (⟨d, .fieldAddr t x f, ty, ps, l.toArray, none⟩ :: r) vals m ls Q =
    ifS (bindsA vals.length l && okA (.fieldAddr t x f) none l m) (drawN T O g all env h d l r vals m ls none Q (st1 (some 0) (entries vals l ++ (dstsOf all ++ env)) (heapA h l m) (faddrO f (opdA (entries vals l ++ (dstsOf all ++ env)) x) (T t)))) := dr_gen rfl
theorem dr_extract {x : Operand} {j : Nat} : drawsS T O g all env h (⟨d, .extract x j, ty, ps, l.toArray, none⟩ :: r) vals m ls Q =
    ifS (bindsA vals.length l && okA (.extract x j) none l m) (drawN T O g all env h d l r vals m ls none Q (st1 (some 0) (entries vals l ++ (dstsOf all ++ env)) (heapA h l m) (extractO j (opd (entries vals l ++ (dstsOf all ++ env)) x)))) := dr_gen rfl
theorem dr_builtin {b : Builtin} {la : List Operand} {ts : Array TypeId} : drawsS T O g all env h (⟨d, .call ⟨.builtin b, la.toArray, ts⟩, ty, ps, l.toArray, none⟩ :: r) vals m ls Q =
    ifS (bindsA vals.length l && okA (.call ⟨.builtin b, la.toArray, ts⟩) none l m) (drawN T O g all env h d l r vals m ls none Q (st1 (some 0) (entries vals l ++ (dstsOf all ++ env)) (heapA h l m) (builtinO b (argsA (entries vals l ++ (dstsOf all ++ env)) la)))) := dr_gen rfl
theorem dr_call {f : Operand} {la : List Operand} {ts : Array TypeId} : drawsS T O g all env h (⟨d, .call ⟨.value f, la.toArray, ts⟩, ty, ps, l.toArray, none⟩ :: r) vals m ls Q =
    ifS (bindsA vals.length l && okA (.call ⟨.value f, la.toArray, ts⟩) none l m) (reqO (callR O g f la (entries vals l ++ (dstsOf all ++ env)) (heapA h l m)) (drawN T O g all env h d l r vals m ls none Q (stC (some 0) (entries vals l ++ (dstsOf all ++ env)) (heapA h l m) (callR O g f la (entries vals l ++ (dstsOf all ++ env)) (heapA h l m))))) := dr_gen rfl
theorem dr_alloc {t : Nat} : drawsS T O g all env h (⟨d, .alloc t, ty, ps, l.toArray, none⟩ :: r) vals m ls Q =
    ifS (bindsA vals.length l && okA (.alloc t) none l m) (drawN T O g all env h d l r vals m ls none Q (stH (some 0) (entries vals l ++ (dstsOf all ++ env)) (doOp T O g (entries vals l ++ (dstsOf all ++ env)) (heapA h l m) (.alloc t)))) := dr_gen rfl
theorem dr_indexAddr {t : Nat} {x ix : Operand} : drawsS T O g all env h (⟨d, .indexAddr t x ix, ty, ps, l.toArray, none⟩ :: r) vals m ls Q =
    ifS (bindsA vals.length l && okA (.indexAddr t x ix) none l m) (drawN T O g all env h d l r vals m ls none Q (stH (some 0) (entries vals l ++ (dstsOf all ++ env)) (doOp T O g (entries vals l ++ (dstsOf all ++ env)) (heapA h l m) (.indexAddr t x ix)))) := dr_gen rfl
theorem dr_index {t : Nat} {x ix : Operand} : drawsS T O g all env h (⟨d, .index t x ix, ty, ps, l.toArray, none⟩ :: r) vals m ls Q =
    ifS (bindsA vals.length l && okA (.index t x ix) none l m) (drawN T O g all env h d l r vals m ls none Q (stH (some 0) (entries vals l ++ (dstsOf all ++ env)) (doOp T O g (entries vals l ++ (dstsOf all ++ env)) (heapA h l m) (.index t x ix)))) := dr_gen rfl
theorem dr_build {t : Nat} {p : Array (Nat × Operand)} : drawsS T O g all env h (⟨d, .build t p, ty, ps, l.toArray, none⟩ :: r) vals m ls Q =
    ifS (bindsA vals.length l && okA (.build t p) none l m) (drawN T O g all env h d l r vals m ls none Q (stH (some 0) (entries vals l ++ (dstsOf all ++ env)) (doOp T O g (entries vals l ++ (dstsOf all ++ env)) (heapA h l m) (.build t p)))) := dr_gen rfl
theorem dr_buildSlice {t n : Nat} {p : Array (Nat × Operand)} : drawsS T O g all env h (⟨d, .buildSlice t n p, ty, ps, l.toArray, none⟩ :: r) vals m ls Q =
    ifS (bindsA vals.length l && okA (.buildSlice t n p) none l m) (drawN T O g all env h d l r vals m ls none Q (stH (some 0) (entries vals l ++ (dstsOf all ++ env)) (doOp T O g (entries vals l ++ (dstsOf all ++ env)) (heapA h l m) (.buildSlice t n p)))) := dr_gen rfl
theorem dr_makeFunc {fn : Go.Fn} {a b : Array Operand} : drawsS T O g all env h (⟨d, .makeFunc fn a b, ty, ps, l.toArray, none⟩ :: r) vals m ls Q =
    ifS (bindsA vals.length l && okA (.makeFunc fn a b) none l m) (drawN T O g all env h d l r vals m ls none Q (stH (some 0) (entries vals l ++ (dstsOf all ++ env)) (doOp T O g (entries vals l ++ (dstsOf all ++ env)) (heapA h l m) (.makeFunc fn a b)))) := dr_gen rfl
theorem dr_field {t f : Nat} {x : Operand} : drawsS T O g all env h (⟨d, .field t x f, ty, ps, l.toArray, none⟩ :: r) vals m ls Q =
    ifS (bindsA vals.length l && okA (.field t x f) none l m) (drawN T O g all env h d l r vals m ls none Q (st1 (some 0) (entries vals l ++ (dstsOf all ++ env)) (heapA h l m) (fieldO f (opdA (entries vals l ++ (dstsOf all ++ env)) x) (T t)))) := dr_gen rfl
theorem dr_pick {c a b : Operand} : drawsS T O g all env h (⟨d, .pick c a b, ty, ps, l.toArray, none⟩ :: r) vals m ls Q =
    ifS (bindsA vals.length l && okA (.pick c a b) none l m) (cndO (gateP (entries vals l ++ (dstsOf all ++ env)) c) (drawN T O g all env h d l r vals m ls none Q (st1 (some 0) (tell (entries vals l ++ (dstsOf all ++ env)) (slotOf c) true) (heapA h l m) (opd (entries vals l ++ (dstsOf all ++ env)) a))) (drawN T O g all env h d l r vals m ls none Q (st1 (some 0) (tell (entries vals l ++ (dstsOf all ++ env)) (slotOf c) false) (heapA h l m) (opd (entries vals l ++ (dstsOf all ++ env)) b)))) := dr_gen rfl
theorem dr_store {t : Nat} {a x : Operand} : drawsS T O g all env h (⟨d, .store t a x, ty, ps, l.toArray, none⟩ :: r) vals m ls Q =
    ifS (bindsA vals.length l && okA (.store t a x) none l m) (drawE T O g all env h d l r vals m ls (boxOf (opdA (entries vals l ++ (dstsOf all ++ env)) a)) Q (stH (some 0) (entries vals l ++ (dstsOf all ++ env)) (storeO (heapA h l m) (opdA (entries vals l ++ (dstsOf all ++ env)) a) (opdA (entries vals l ++ (dstsOf all ++ env)) x) (T t)))) := by
  have e1 : exec T O g (some 0) (.store t a x) = fun e h K => K (stH (some 0) e (storeO h (opdA e a) (opdA e x) (T t))) := rfl
  simp only [drawsS, envD, bindsA_eq]
  have hh : heapN h ⟨d, .store t a x, ty, ps, l.toArray, none⟩ m = heapA h l m := (heapA_eq (o := ⟨d, .store t a x, ty, ps, l.toArray, none⟩)).symm
  have hl : ldOf (entries vals l ++ (dstsOf all ++ env)) (.store t a x) = none := rfl
  have ho : okN ⟨d, .store t a x, ty, ps, l.toArray, none⟩ none m = okA (.store t a x) none l m := (okA_eq (o := ⟨d, .store t a x, ty, ps, l.toArray, none⟩)).symm
  have hw : waitsHead ⟨d, .store t a x, ty, ps, l.toArray, none⟩ m = headW l m := (headW_eq (o := ⟨d, .store t a x, ty, ps, l.toArray, none⟩)).symm
  have hs : ∀ b, storeOk all ⟨d, .store t a x, ty, ps, l.toArray, none⟩ m ls b vals.length = allWait all l m ls b vals.length := fun b => (allWait_eq (o := ⟨d, .store t a x, ty, ps, l.toArray, none⟩)).symm
  rw [hl, hh, ho, hw, e1]
  congr 1
  simp only [hs]
  generalize stH (some 0) (entries vals l ++ (dstsOf all ++ env)) _ = s'
  match s' with
  | none => rfl
  | some ⟨[], h'⟩ => rfl
  | some ⟨(t', v) :: e, h'⟩ =>
    simp only [valOf, isStore, cond_true, drawE, stBox]
theorem drawN_p {v : Option SV} {t : Nat} {e : Env} {h' : Heap} {ld : Option Nat} (hs : sameLen h' (heapA h l m) = true) : drawN T O g all env h d l r vals m ls ld Q (some ⟨(t, v) :: e, h'⟩) = drawsS T O g all env h r (vals ++ [d.map (·, v)]) m (ls ++ [ld]) Q := by
  simp only [drawN, hs, cond_true]
theorem drawN_g {v : Option SV} {t : Nat} {e : Env} {h' : Heap} {ld : Option Nat} (hs : sameLen h' (heapA h l m) = false) : drawN T O g all env h d l r vals m ls ld Q (some ⟨(t, v) :: e, h'⟩) = ifS (headW l m) (drawsS T O g all env h r (vals ++ [d.map (·, v)]) ((vals.length, none, h') :: m) (ls ++ [none]) Q) := by
  simp only [drawN, hs, cond_false]
theorem drawE_s {v : Option SV} {t : Nat} {e : Env} {h' : Heap} {b : Nat} : drawE T O g all env h d l r vals m ls (some b) Q (some ⟨(t, v) :: e, h'⟩) = ifS (headW l m && allWait all l m ls b vals.length) (drawsS T O g all env h r (vals ++ [d.map (·, v)]) ((vals.length, some b, h') :: m) (ls ++ [none]) Q) := rfl
theorem boxOf_own {i o : Nat} : boxOf (some (.c (.ptr (.own i o)))) = some i := rfl
theorem boxOf_giv {j : Nat} : boxOf (some (.c (.ptr (.giv j)))) = none := rfl
theorem otherB_s {b c : Nat} : otherB b (some c) = !Nat.beq c b := rfl
theorem otherB_n {b : Nat} : otherB b none = false := rfl
theorem spares_s {p : Bool} {l : Option Nat} {b : Nat} : spares p l (some b) = (p || otherB b l) := rfl
theorem spares_n {p : Bool} {l : Option Nat} : spares p l none = true := rfl
theorem ldAt_0 {x : Option Nat} {r : Lds} : ldAt (x :: r) 0 = x := rfl
theorem ldAt_s {x : Option Nat} {r : Lds} {n : Nat} : ldAt (x :: r) (n + 1) = ldAt r n := rfl
theorem pure_fieldAddr {t f : Nat} {x : Operand} : isPure (.fieldAddr t x f) = true := rfl
theorem pure_field {t f : Nat} {x : Operand} : isPure (.field t x f) = true := rfl
theorem pure_indexAddr {t : Nat} {x y : Operand} : isPure (.indexAddr t x y) = true := rfl
theorem pure_index {t : Nat} {x y : Operand} : isPure (.index t x y) = true := rfl
theorem pure_load {t : Nat} {x : Operand} : isPure (.load t x) = false := rfl
theorem pure_call {c : Call} : isPure (.call c) = false := rfl
theorem pure_store {t : Nat} {x y : Operand} : isPure (.store t x y) = false := rfl
theorem pure_alloc {t : Nat} : isPure (.alloc t) = false := rfl
theorem pure_box {t : Nat} {x : Operand} : isPure (.box t x) = false := rfl
theorem pure_build {t : Nat} {p : Array (Nat × Operand)} : isPure (.build t p) = false := rfl
end
theorem ifS_t {A : Prop} : ifS true A = A := rfl
theorem bindsA_nil {n : Nat} : bindsA n [] = true := rfl
theorem bindsA_cons {n k : Nat} {gr : Ground} {r : List Edge} : bindsA n (⟨k, gr⟩ :: r) = ((!Region.binds .any ⟨k, gr⟩ || Nat.blt k n) && bindsA n r) := rfl
theorem waitsA_nil {n : Nat} : waitsA n [] = false := rfl
theorem waitsA_cons {n k : Nat} {gr : Ground} {r : List Edge} : waitsA n (⟨k, gr⟩ :: r) = ((Region.binds .any ⟨k, gr⟩ && Nat.beq k n) || waitsA n r) := rfl
theorem allWait_0 {all : List Oper} {l : List Edge} {ws : WS} {ls : Lds} {b : Nat} : allWait all l ws ls b 0 = true := rfl
theorem allWait_s {all : List Oper} {l : List Edge} {ws : WS} {ls : Lds} {b n : Nat} : allWait all l ws ls b (n + 1) = (allWait all l ws ls b n && (waitsA n l || pureAt all n || isW n ws || otherB b (ldAt ls n))) := rfl
theorem isW_nil {n : Nat} : isW n [] = false := rfl
theorem isW_cons {n k : Nat} {st : Option Nat} {h : Heap} {r : WS} : isW n ((k, st, h) :: r) = (Nat.beq k n || isW n r) := rfl
theorem okA_nil {op : Op} {ld : Option Nat} {l : List Edge} : okA op ld l [] = true := rfl
theorem okA_cons {op : Op} {ld : Option Nat} {l : List Edge} {k : Nat} {st : Option Nat} {h : Heap} {r : WS} : okA op ld l ((k, st, h) :: r) = (waitsA k l || (spares (isPure op) ld st && okA op ld l r)) := rfl
theorem headW_nil {l : List Edge} : headW l [] = true := rfl
theorem headW_cons {l : List Edge} {k : Nat} {st : Option Nat} {h : Heap} {r : WS} : headW l ((k, st, h) :: r) = waitsA k l := rfl
theorem headH_nil {h : Heap} : headH h [] = h := rfl
theorem headH_cons {h h1 : Heap} {k : Nat} {st : Option Nat} {r : WS} : headH h ((k, st, h1) :: r) = h1 := rfl
theorem pure_0 {o : Oper} {r : List Oper} : pureAt (o :: r) 0 = isPure o.op := rfl
theorem pure_s {o : Oper} {r : List Oper} {n : Nat} : pureAt (o :: r) (n + 1) = pureAt r n := rfl
theorem pure_move {x : Operand} : isPure (.move x) = true := rfl
theorem pure_assign {x : Operand} : isPure (.assign x) = true := rfl
theorem pure_bin {op : BinOp} {t t' : Nat} {x y : Operand} : isPure (.binOp op t x y t') = true := rfl
theorem pure_un {op : UnOp} {t : Nat} {x : Operand} : isPure (.unOp op t x) = true := rfl
theorem pure_conv {t t' : Nat} {x : Operand} : isPure (.convert t t' x) = true := rfl
theorem pure_ext {x : Operand} {i : Nat} : isPure (.extract x i) = true := rfl
theorem binds_data {k : Nat} : Region.binds .any ⟨k, .data⟩ = true := rfl
theorem binds_chain {k : Nat} : Region.binds .any ⟨k, .chain⟩ = true := rfl
theorem binds_guard {k : Nat} : Region.binds .any ⟨k, .guard⟩ = true := rfl
theorem binds_phase {k : Nat} : Region.binds .any ⟨k, .phase⟩ = true := rfl
theorem binds_text {k : Nat} {x : Departure} : Region.binds .any ⟨k, .textOnly x⟩ = false := rfl
theorem binds_gc {k : Nat} {x : Departure} : Region.binds .any ⟨k, .gcOnly x⟩ = false := rfl
theorem heapA_nil {h : Heap} {l : List Edge} : heapA h l [] = h := rfl
theorem heapA_cons {h h1 : Heap} {k : Nat} {st : Option Nat} {l : List Edge} {r : WS} : heapA h l ((k, st, h1) :: r) = bif waitsA k l then h1 else heapA h l r := rfl
theorem sameLen_self {α : Type} {l : List α} : sameLen l l = true := by
  induction l with
  | nil => rfl
  | cons x r ih => exact ih
theorem sameLen_nil {α : Type} : sameLen ([] : List α) [] = true := rfl
theorem sameLen_cons {α : Type} {x y : α} {a b : List α} : sameLen (x :: a) (y :: b) = sameLen a b := rfl
theorem sameLen_l {α : Type} {x : α} {a : List α} : sameLen (x :: a) [] = false := rfl
theorem sameLen_set {α : Type} {l : List α} {i : Nat} {x : α} : sameLen (l.set i x) l = true := by
  induction l generalizing i with
  | nil => rfl
  | cons y r ih => cases i with
    | zero => simp only [List.set_cons_zero, sameLen_cons, sameLen_self]
    | succ i => simp only [List.set_cons_succ, sameLen_cons, ih]
def entC (b : Bool) (v : Option (Option (Nat × Option SV))) (r : Env) : Env := bif b then (match v with
  | some (some x) => x :: r
  | _ => r) else r
theorem entries_nil {vals : Vals} : entries vals [] = [] := rfl
theorem entries_cons {vals : Vals} {k : Nat} {gr : Ground} {r : List Edge} : entries vals (⟨k, gr⟩ :: r) = entC (Region.binds .any ⟨k, gr⟩) vals[k]? (entries vals r) := by
  simp only [entries, entC, Bool.cond_eq_ite]; rfl
theorem entC_f {v : Option (Option (Nat × Option SV))} {r : Env} : entC false v r = r := rfl
theorem entC_t {x : Nat × Option SV} {r : Env} : entC true (some (some x)) r = x :: r := rfl
theorem entC_n {r : Env} : entC true (some none) r = r := rfl
theorem dstsOf_nil : dstsOf [] = [] := rfl
theorem dstsOf_some {d : Nat} {op : Op} {ty : TypeId} {ps : String} {af : Array Edge} {r : List Oper} : dstsOf (⟨some d, op, ty, ps, af, none⟩ :: r) = (d, none) :: dstsOf r := rfl
theorem dstsOf_no {op : Op} {ty : TypeId} {ps : String} {af : Array Edge} {r : List Oper} : dstsOf (⟨none, op, ty, ps, af, none⟩ :: r) = dstsOf r := rfl
theorem valsEnv_nil : valsEnv [] = [] := rfl
theorem valsEnv_some {x : Nat × Option SV} {r : Vals} : valsEnv (some x :: r) = x :: valsEnv r := rfl
theorem valsEnv_none {r : Vals} : valsEnv (none :: r) = valsEnv r := rfl

/-! ### Types that are looked up -/

def allocO (h : Heap) : Option TD → Option (Option SV × Heap)
  | some d => bif d.zok then some (some (.v (.c (.ptr (.own h.length 0)))), h ++ [d.zero]) else none
  | none => none
theorem alloc_eq {e : Env} {h : Heap} {t : Nat} : doOp T O g e h (.alloc t) = allocO h (T t) := by
  simp only [doOp, allocO]
  cases T t with
  | none => rfl
  | some d => cases hz : d.zok <;> simp [hz]
theorem alloc_pair' {h : Heap} {k1 k2 : IntKind} : allocO h (some (tdPair k1 k2)) = some (some (.v (.c (.ptr (.own h.length 0)))), h ++ [[.int k1 0, .int k2 0]]) := rfl
theorem alloc_int {h : Heap} {k : IntKind} : allocO h (some (tdInt k)) = some (some (.v (.c (.ptr (.own h.length 0)))), h ++ [[.int k 0]]) := rfl
theorem alloc_bool {h : Heap} : allocO h (some tdBool) = some (some (.v (.c (.ptr (.own h.length 0)))), h ++ [[.bool false]]) := rfl
def fillO (h : Heap) : Option (List PC) → Option (Option SV × Heap)
  | some cs => some (some (.v (.agg cs)), h)
  | none => none
def buildO (h : Heap) : Option TD → Option (List (Nat × PC)) → Option (Option SV × Heap)
  | some d, some ps => bif d.agg && d.zok then fillO h (fillP (fun i => if d.cells then some i else d.fields[i]?) d.zero ps) else none
  | _, _ => none
theorem build_eq {e : Env} {h : Heap} {t : Nat} {ps : List (Nat × Operand)} : doOp T O g e h (.build t ps.toArray) = buildO h (T t) (partsP e ps) := by
  simp only [doOp, buildO]
  cases T t with
  | none => rfl
  | some d =>
    cases partsP e ps with
    | none => rfl
    | some l =>
      simp only [Bool.cond_eq_ite, Bool.and_eq_true]
      split
      · generalize fillP (fun i => if d.cells = true then some i else d.fields[i]?) d.zero l = x
        cases x <;> rfl
      · rfl
theorem buildO_01 {h : Heap} {k1 k2 : IntKind} {a b : PC} : buildO h (some (tdPair k1 k2)) (some [(0, a), (1, b)]) = some (some (.v (.agg [a, b])), h) := rfl
theorem buildO_0 {h : Heap} {k1 k2 : IntKind} {a : PC} : buildO h (some (tdPair k1 k2)) (some [(0, a)]) = some (some (.v (.agg [a, .int k2 0])), h) := rfl
theorem buildO_1 {h : Heap} {k1 k2 : IntKind} {a : PC} : buildO h (some (tdPair k1 k2)) (some [(1, a)]) = some (some (.v (.agg [.int k1 0, a])), h) := rfl
theorem buildO_n {h : Heap} {k1 k2 : IntKind} : buildO h (some (tdPair k1 k2)) (some []) = some (some (.v (.agg [.int k1 0, .int k2 0])), h) := rfl
theorem buildO_a {h : Heap} {k : IntKind} {a b : PC} : buildO h (some (tdArr k 2)) (some [(0, a), (1, b)]) = some (some (.v (.agg [a, b])), h) := rfl
def rowO (h : Heap) (n : Nat) : Option (List PC) → Option (Option SV × Heap)
  | some cs => some (some (.v (.c (.row h.length n))), h ++ [cs])
  | none => none
def bslO (h : Heap) (n : Nat) : Option TD → Option (List (Nat × PC)) → Option (Option SV × Heap)
  | some d, some ps => bif d.cells && !d.agg && Nat.blt 0 n && Nat.ble n 1000 then rowO h n (fillP some (List.replicate n d.ez) ps) else none
  | _, _ => none
theorem bsl_eq {e : Env} {h : Heap} {t n : Nat} {ps : List (Nat × Operand)} : doOp T O g e h (.buildSlice t n ps.toArray) = bslO h n (T t) (partsP e ps) := by
  simp only [doOp, bslO]
  cases T t with
  | none => rfl
  | some d =>
    cases partsP e ps with
    | none => rfl
    | some l =>
      simp only [Bool.cond_eq_ite, Bool.and_eq_true, Nat.blt_eq, Nat.ble_eq, Bool.not_eq_true', Bool.not_eq_true, and_assoc]
      split
      · generalize fillP some (List.replicate n d.ez) l = x
        cases x <;> rfl
      · rfl
theorem bslO_2 {h : Heap} {k : IntKind} {a b : PC} : bslO h 2 (some (tdRow k)) (some [(0, a), (1, b)]) = some (some (.v (.c (.row h.length 2))), h ++ [[a, b]]) := rfl
def idxO (h : Heap) : Option TD → Option AV → Option PC → Option (Option SV × Heap)
  | some d, some (.agg xs), some (.int _ j) => bif d.cells && d.agg && decide (0 ≤ j) && decide (j < d.len) then (match xs[j.toNat]? with
        | some c => some (some (sp c), h)
        | none => none) else none
  | some d, some (.c (.p (.str s))), some (.int _ j) => bif d.isStr && decide (0 ≤ j) then (match s[j.toNat]? with
        | some b => some (some (sp (.int .u8 b.toNat)), h)
        | none => none) else none
  | _, _, _ => none
theorem idx_eq {e : Env} {h : Heap} {t : Nat} {x ix : Operand} : doOp T O g e h (.index t x ix) = idxO h (T t) (opdA e x) (opdP e ix) := by
  simp only [doOp]
  split
  · rename_i xs k j d h1 h2 h3
    rw [h1, h2, h3]
    simp only [idxO, Bool.cond_eq_ite, Bool.and_eq_true, decide_eq_true_eq, and_assoc]
    rfl
  · rename_i s k j d h1 h2 h3
    rw [h1, h2, h3]
    simp only [idxO, Bool.cond_eq_ite, Bool.and_eq_true, decide_eq_true_eq]
    rfl
  · rename_i hn hn2
    unfold idxO
    split
    · rename_i h1 h2 h3; exact absurd h1 (hn _ _ _ _ h2 h3)
    · rename_i h1 h2 h3; exact absurd h1 (hn2 _ _ _ _ h2 h3)
    · rfl
theorem idxO_0 {h : Heap} {n : Nat} {a : PC} {k k' : IntKind} {r : List PC} : idxO h (some (tdArr k' (n + 1))) (some (.agg (a :: r))) (some (.int k 0)) = some (some (sp a), h) := by
  simp [idxO, tdArr]
theorem idxO_2 {h : Heap} {i : Int} {a b : PC} {k k' : IntKind} (hi : i = 0 ∨ i = 1) : idxO h (some (tdArr k' 2)) (some (.agg [a, b])) (some (.int k i)) = some (some (sp (if i = 0 then a else b)), h) := by
  rcases hi with rfl | rfl <;> rfl
def iadO (h : Heap) : Option TD → Option AV → Option PC → Option (Option SV × Heap)
  | some d, some (.c (.row i n)), some (.int _ j) => bif d.cells && !d.agg && decide (0 ≤ j) && decide (j < n) then some (some (.v (.c (.ptr (.own i j.toNat)))), h) else none
  | _, _, _ => none
theorem iad_eq {e : Env} {h : Heap} {t : Nat} {x ix : Operand} : doOp T O g e h (.indexAddr t x ix) = iadO h (T t) (opdA e x) (opdP e ix) := by
  simp only [doOp]
  split
  · rename_i i n k j d h1 h2 h3
    rw [h1, h2, h3]
    simp only [iadO, Bool.cond_eq_ite, Bool.and_eq_true, decide_eq_true_eq, Bool.not_eq_true', Bool.not_eq_true, and_assoc]
  · rename_i hn
    unfold iadO
    split
    · rename_i h1 h2 h3; exact absurd h1 (hn _ _ _ _ _ h2 h3)
    · rfl
theorem iadO_2 {h : Heap} {r : Nat} {i : Int} {k k' : IntKind} (hi : i = 0 ∨ i = 1) : iadO h (some (tdRow k')) (some (.c (.row r 2))) (some (.int k i)) = some (some (.v (.c (.ptr (.own r i.toNat)))), h) := by
  rcases hi with rfl | rfl <;> rfl
/-- Two values of a struct or two truth values are compared. -/
def eqT (w : Bool) : Option TD → AV → AV → Option SV
  | some d, .agg xs, .agg ys => if d.eqk = [] then none else match ints d.eqk xs, ints d.eqk ys with
    | some l, some m => some (sp (.bool ((l == m) == w)))
    | _, _ => none
  | some d, .c (.p (.bool a)), .c (.p (.bool b)) => if d.isBool then some (sp (.bool ((a == b) == w))) else none
  | _, _, _ => none
theorem binP_eql' {t : Nat} {xs ys : List PC} : binO T .eql t (some (.agg xs)) (some (.agg ys)) = eqT true (T t) (.agg xs) (.agg ys) := by
  simp only [binO, bin, eqT]
  cases T t with
  | none => rfl
  | some d =>
    by_cases hd : d.eqk = []
    · simp [hd]
    · simp only [hd, if_false]
      cases ints d.eqk xs <;> cases ints d.eqk ys <;> simp
theorem binP_neq' {t : Nat} {xs ys : List PC} : binO T .neq t (some (.agg xs)) (some (.agg ys)) = eqT false (T t) (.agg xs) (.agg ys) := by
  simp only [binO, bin, eqT]
  cases T t with
  | none => rfl
  | some d =>
    by_cases hd : d.eqk = []
    · simp [hd]
    · simp only [hd, if_false]
      cases ints d.eqk xs <;> cases ints d.eqk ys <;> simp [bne]
theorem binB_eql' {t : Nat} {x y : Bool} : binO T .eql t (some (.c (.p (.bool x)))) (some (.c (.p (.bool y)))) = eqT true (T t) (.c (.p (.bool x))) (.c (.p (.bool y))) := by
  simp only [binO, bin, eqT]
  cases T t with
  | none => rfl
  | some d => cases hd : d.isBool <;> simp [hd]
theorem binB_neq' {t : Nat} {x y : Bool} : binO T .neq t (some (.c (.p (.bool x)))) (some (.c (.p (.bool y)))) = eqT false (T t) (.c (.p (.bool x))) (.c (.p (.bool y))) := by
  simp only [binO, bin, eqT]
  cases T t with
  | none => rfl
  | some d => cases hd : d.isBool <;> simp [hd, bne]
theorem eqT_pt {k1 k2 : IntKind} {x1 x2 y1 y2 : Int} : eqT true (some (tdPair k1 k2)) (.agg [.int k1 x1, .int k2 x2]) (.agg [.int k1 y1, .int k2 y2]) = some (sp (.bool (decide (x1 = y1) && decide (x2 = y2)))) := by
  simp [eqT, tdPair, ints, intBeq]
theorem eqT_pf {k1 k2 : IntKind} {x1 x2 y1 y2 : Int} : eqT false (some (tdPair k1 k2)) (.agg [.int k1 x1, .int k2 x2]) (.agg [.int k1 y1, .int k2 y2]) = some (sp (.bool (!(decide (x1 = y1) && decide (x2 = y2))))) := by
  simp [eqT, tdPair, ints, intBeq]
theorem eqT_bt {x y : Bool} : eqT true (some tdBool) (.c (.p (.bool x))) (.c (.p (.bool y))) = some (sp (.bool (x == y))) := by
  simp [eqT, tdBool]
theorem eqT_bf {x y : Bool} : eqT false (some tdBool) (.c (.p (.bool x))) (.c (.p (.bool y))) = some (sp (.bool (!(x == y)))) := by
  simp [eqT, tdBool]
end
end Go.Proofs.YtnkdmdjnnbkfgaaGreat.Eng
