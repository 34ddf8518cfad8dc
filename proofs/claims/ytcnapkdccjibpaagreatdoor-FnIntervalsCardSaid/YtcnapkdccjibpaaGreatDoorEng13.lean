/- The rules by which a proof walks. -/
import Derived.Test.YtcnapkdccjibpaaGreatDoorEng12
namespace Go.Proofs.YtcnapkdccjibpaaGreatDoor.Eng
open Go Go.RowKit
set_option linter.unusedVariables false

theorem intBeq (a b : Int) : (a == b) = decide (a = b) := by
  by_cases h : a = b <;> simp [h]

@[congr] theorem cndO_congr {o o' : Option Bool} {A B : Prop} (h : o = o') : cndO o A B = cndO o' A B := by rw [h]

@[congr] theorem gateD_congr {gv gv' : Option (Nat × Option SV)} {w : Bool} {vals : Vals} {A B : Vals → Prop} (h : gv = gv') : gateD gv w vals A B = gateD gv' w vals A B := by rw [h]
@[congr] theorem grd_congr {o o' : Option SV} {w : Bool} {A B C : Prop} (h : o = o') : grd o w A B C = grd o' w A B C := by rw [h]

section
variable {T : Tab} {O : Orc} {g : Gv}

theorem go_reg {i : Nat} {l : List Oper} {s : St} {Q : Ex → St → Prop} : goS T O g (.region i l.toArray false) (some s) Q = opsS T O g l l (some s) Q := rfl
theorem go_draw {i : Nat} {l : List Oper} {e : Env} {h : Heap} {Q : Ex → St → Prop} (hb : O.brute = false) : goS T O g (.region i l.toArray true) (some ⟨e, h⟩) Q = drawsS T O g l e h (frees l) l [] [] [] [] Q := by
  show (bif O.brute then _ else _) = _
  rw [hb]; rfl
theorem go_drawB {i : Nat} {l : List Oper} {e : Env} {h : Heap} {Q : Ex → St → Prop} (hb : O.brute = true) : goS T O g (.region i l.toArray true) (some ⟨e, h⟩) Q = drawB T O g l ⟨e, h⟩ Q := by
  show (bif O.brute then _ else _) = _
  rw [hb]; rfl
def linsB (E : List (List Nat)) : List (List Nat) := linsE E E.length (List.replicate E.length false)
def pickO (all : List Oper) (r : List Nat) : Option Oper → List Oper
  | some o => o :: pickL all r
  | none => pickL all r
theorem drawB_eq {l : List Oper} {s : St} {Q : Ex → St → Prop} : drawB T O g l s Q = allL (fun k => opsS T O g l (pickL l k) (some s) Q) (linsB (edgesL l)) := by
  unfold drawB linsB; rw [edgesL_len]
theorem pickL_nil {l : List Oper} : pickL l [] = [] := rfl
theorem pickL_cons {l : List Oper} {k : Nat} {r : List Nat} : pickL l (k :: r) = pickO l r l[k]? := by
  unfold pickL pickO; split <;> simp_all
theorem pickO_some {l : List Oper} {r : List Nat} {o : Oper} : pickO l r (some o) = o :: pickL l r := rfl
theorem edgesL_nil : edgesL [] = [] := rfl
theorem edgesL_cons {d : Option Tmp} {op : Op} {ty : TypeId} {ps : String} {l : List Edge} {gd : Option (Nat × Bool)} {r : List Oper} : edgesL (⟨d, op, ty, ps, l.toArray, gd⟩ :: r) = edgesA l :: edgesL r := rfl
theorem edgesA_nil : edgesA [] = [] := rfl
theorem edgesA_cons {k : Nat} {gr : Ground} {r : List Edge} : edgesA (⟨k, gr⟩ :: r) = bif Region.binds .any ⟨k, gr⟩ then k :: edgesA r else edgesA r := rfl
theorem allL_nil {α : Type} {p : α → Prop} : allL p [] = True := rfl
theorem allL_cons {α : Type} {p : α → Prop} {x : α} {r : List α} : allL p (x :: r) = (p x ∧ allL p r) := rfl
theorem brute_orc {P : Program} {l : List (OE P)} : (orc l).brute = false := rfl
theorem brute_orcM {P : Program} {l : List (OE P)} {m : List (ME P)} : (orcM l m).brute = false := rfl
theorem brute_orcB {P : Program} {l : List (OE P)} {m : List (ME P)} : (orcB l m).brute = true := rfl
theorem go_seq {a b : Code} {s : St} {Q : Ex → St → Prop} : goS T O g (.seq a b) (some s) Q = goS T O g a (some s) (seqC (fun s' => goS T O g b s' Q) Q) := rfl
/-- The rest of a sequence, as a word of its own. -/
def rest (T : Tab) (O : Orc) (g : Gv) (b : Code) (Q : Ex → St → Prop) : Ex → St → Prop := seqC (fun s' => goS T O g b s' Q) Q
theorem go_seq' {a b : Code} {s : St} {Q : Ex → St → Prop} : goS T O g (.seq a b) (some s) Q = goS T O g a (some s) (rest T O g b Q) := rfl
theorem rest_n {b : Code} {Q : Ex → St → Prop} {s : St} : rest T O g b Q .normal s = goS T O g b (some s) Q := rfl
theorem rest_r {b : Code} {Q : Ex → St → Prop} {s : St} : rest T O g b Q .ret s = Q .ret s := rfl
theorem rest_e {b : Code} {Q : Ex → St → Prop} {s : St} {i : Nat} : rest T O g b Q (.exit i) s = Q (.exit i) s := rfl
theorem go_cond {c : Operand} {a b : Code} {e : Env} {h : Heap} {Q : Ex → St → Prop} : goS T O g (.cond c a b) (some ⟨e, h⟩) Q = cndO (gateP e c) (goS T O g a (some ⟨tell e (slotOf c) true, h⟩) Q) (goS T O g b (some ⟨tell e (slotOf c) false, h⟩) Q) := rfl
theorem go_block {i : Nat} {b : Code} {s : St} {Q : Ex → St → Prop} : goS T O g (.block i b) (some s) Q = goS T O g b (some s) (blockK i Q) := rfl
theorem go_ret_ {s : St} {Q : Ex → St → Prop} : goS T O g .ret (some s) Q = Q .ret s := rfl
theorem go_skip {s : St} {Q : Ex → St → Prop} : goS T O g .skip (some s) Q = Q .normal s := rfl
theorem go_exit {i : Nat} {s : St} {Q : Ex → St → Prop} : goS T O g (.exit i) (some s) Q = Q (.exit i) s := rfl
theorem blockK_n {i : Nat} {Q : Ex → St → Prop} {s : St} : blockK i Q .normal s = Q .normal s := rfl
theorem blockK_r {i : Nat} {Q : Ex → St → Prop} {s : St} : blockK i Q .ret s = Q .ret s := rfl
theorem blockK_e {i : Nat} {Q : Ex → St → Prop} {s : St} : blockK i Q (.exit i) s = Q .normal s := by simp [blockK]
theorem blockK_x {i j : Nat} (h : j ≠ i) {Q : Ex → St → Prop} {s : St} : blockK i Q (.exit j) s = Q (.exit j) s := by simp [blockK, h]

section
variable {all r : List Oper} {d : Option Tmp} {ty : TypeId} {ps : String} {af : Array Edge} {e : Env} {h : Heap} {Q : Ex → St → Prop}
theorem ops_nil {s : St} : opsS T O g all [] (some s) Q = Q .normal s := rfl
theorem ops_gate {op : Op} {j : Nat} {w : Bool} : opsS T O g all (⟨d, op, ty, ps, af, some (j, w)⟩ :: r) (some ⟨e, h⟩) Q =
    grd (slotV e (gslot all j)) w (opsS T O g all (⟨d, op, ty, ps, af, none⟩ :: r) (some ⟨tell e (gslot all j) w, h⟩) Q) (opsS T O g all r (some ⟨putE (tell e (gslot all j) (!w)) d (some (.tup [])), h⟩) Q) (opsS T O g all r (some ⟨putE e d (some (.tup [])), h⟩) Q) := rfl
theorem ops_move {x : Operand} : opsS T O g all (⟨d, .move x, ty, ps, af, none⟩ :: r) (some ⟨e, h⟩) Q = opsS T O g all r (st1 d e h (opd e x)) Q := rfl
theorem ops_assign {x : Operand} : opsS T O g all (⟨d, .assign x, ty, ps, af, none⟩ :: r) (some ⟨e, h⟩) Q = opsS T O g all r (st1 d e h (opd e x)) Q := rfl
theorem ops_box {t : Nat} {x : Operand} : opsS T O g all (⟨d, .box t x, ty, ps, af, none⟩ :: r) (some ⟨e, h⟩) Q = opsS T O g all r (stH d e (boxO h (cellsO (opdA e x)))) Q := rfl
theorem ops_load {t : Nat} {x : Operand} : opsS T O g all (⟨d, .load t x, ty, ps, af, none⟩ :: r) (some ⟨e, h⟩) Q = opsS T O g all r (st1 d e h (loadO g h (opdA e x) (T t))) Q := rfl
theorem ops_store {t : Nat} {a x : Operand} : opsS T O g all (⟨d, .store t a x, ty, ps, af, none⟩ :: r) (some ⟨e, h⟩) Q = opsS T O g all r (stH d e (storeO h (opdA e a) (opdA e x) (T t))) Q := rfl
theorem ops_bin {op : BinOp} {t u : Nat} {x y : Operand} : opsS T O g all (⟨d, .binOp op t x y u, ty, ps, af, none⟩ :: r) (some ⟨e, h⟩) Q = opsS T O g all r (st1 d e h (binO T op t (opdA e x) (opdA e y))) Q := rfl
theorem ops_un {op : UnOp} {t : Nat} {x : Operand} : opsS T O g all (⟨d, .unOp op t x, ty, ps, af, none⟩ :: r) (some ⟨e, h⟩) Q = opsS T O g all r (st1 d e h (unO op (opdP e x))) Q := rfl
theorem ops_conv {u t : Nat} {x : Operand} : opsS T O g all (⟨d, .convert u t x, ty, ps, af, none⟩ :: r) (some ⟨e, h⟩) Q = opsS T O g all r (stH d e (convH (pureTy t) h g.m (opdA e x) (T u) (T t))) Q := rfl
theorem ops_fieldAddr {t f : Nat} {x : Operand} : opsS T O g all (⟨d, .fieldAddr t x f, ty, ps, af, none⟩ :: r) (some ⟨e, h⟩) Q = opsS T O g all r (st1 d e h (faddrO f (opdA e x) (T t))) Q := rfl
theorem ops_field {t f : Nat} {x : Operand} : opsS T O g all (⟨d, .field t x f, ty, ps, af, none⟩ :: r) (some ⟨e, h⟩) Q = opsS T O g all r (st1 d e h (fieldO f (opdA e x) (T t))) Q := rfl
theorem ops_extract {x : Operand} {j : Nat} : opsS T O g all (⟨d, .extract x j, ty, ps, af, none⟩ :: r) (some ⟨e, h⟩) Q = opsS T O g all r (st1 d e h (extractO j (opd e x))) Q := rfl
theorem ops_max {l : List Operand} {ts : Array TypeId} : opsS T O g all (⟨d, .call ⟨.builtin .max, l.toArray, ts⟩, ty, ps, af, none⟩ :: r) (some ⟨e, h⟩) Q = opsS T O g all r (st1 d e h (builtinO .max (argsA e l))) Q := rfl
theorem ops_min {l : List Operand} {ts : Array TypeId} : opsS T O g all (⟨d, .call ⟨.builtin .min, l.toArray, ts⟩, ty, ps, af, none⟩ :: r) (some ⟨e, h⟩) Q = opsS T O g all r (st1 d e h (builtinO .min (argsA e l))) Q := rfl
theorem ops_len {l : List Operand} {t : TypeId} : opsS T O g all (⟨d, .call ⟨.builtin .len, l.toArray, #[t]⟩, ty, ps, af, none⟩ :: r) (some ⟨e, h⟩) Q = opsS T O g all r (st1 d e h (lenO (argsA e l) (T t))) Q := rfl
theorem ops_append {l : List Operand} {ts : Array TypeId} : opsS T O g all (⟨d, .call ⟨.builtin .append, l.toArray, ts⟩, ty, ps, af, none⟩ :: r) (some ⟨e, h⟩) Q = opsS T O g all r (stH d e (doOp T O g e h (.call ⟨.builtin .append, l.toArray, ts⟩))) Q := rfl
theorem ops_makeSlice {t : Nat} {x y : Operand} : opsS T O g all (⟨d, .makeSlice t x y, ty, ps, af, none⟩ :: r) (some ⟨e, h⟩) Q = opsS T O g all r (stH d e (doOp T O g e h (.makeSlice t x y))) Q := rfl
theorem ops_slice {t : Nat} {x : Operand} {lo hi mx : Option Operand} : opsS T O g all (⟨d, .slice t x lo hi mx, ty, ps, af, none⟩ :: r) (some ⟨e, h⟩) Q = opsS T O g all r (stH d e (doOp T O g e h (.slice t x lo hi mx))) Q := rfl
theorem ops_call {f : Operand} {l : List Operand} {ts : Array TypeId} : opsS T O g all (⟨d, .call ⟨.value f, l.toArray, ts⟩, ty, ps, af, none⟩ :: r) (some ⟨e, h⟩) Q =
    reqO (callR O g f l e h) (opsS T O g all r (stC d e (callR O g f l e h)) Q) := rfl
theorem ops_pick {c a b : Operand} : opsS T O g all (⟨d, .pick c a b, ty, ps, af, none⟩ :: r) (some ⟨e, h⟩) Q =
    cndO (gateP e c) (opsS T O g all r (st1 d (tell e (slotOf c) true) h (opd e a)) Q) (opsS T O g all r (st1 d (tell e (slotOf c) false) h (opd e b)) Q) := rfl
theorem ops_alloc {t : Nat} : opsS T O g all (⟨d, .alloc t, ty, ps, af, none⟩ :: r) (some ⟨e, h⟩) Q = opsS T O g all r (stH d e (doOp T O g e h (.alloc t))) Q := rfl
theorem ops_nilCheck {x : Operand} : opsS T O g all (⟨d, .nilCheck x, ty, ps, af, none⟩ :: r) (some ⟨e, h⟩) Q = opsS T O g all r (stH d e (doOp T O g e h (.nilCheck x))) Q := rfl
theorem ops_indexAddr {t : Nat} {x ix : Operand} : opsS T O g all (⟨d, .indexAddr t x ix, ty, ps, af, none⟩ :: r) (some ⟨e, h⟩) Q = opsS T O g all r (stH d e (doOp T O g e h (.indexAddr t x ix))) Q := rfl
theorem ops_index {t : Nat} {x ix : Operand} : opsS T O g all (⟨d, .index t x ix, ty, ps, af, none⟩ :: r) (some ⟨e, h⟩) Q = opsS T O g all r (stH d e (doOp T O g e h (.index t x ix))) Q := rfl
theorem ops_build {t : Nat} {p : Array (Nat × Operand)} : opsS T O g all (⟨d, .build t p, ty, ps, af, none⟩ :: r) (some ⟨e, h⟩) Q = opsS T O g all r (stH d e (doOp T O g e h (.build t p))) Q := rfl
theorem ops_buildSlice {t n : Nat} {p : Array (Nat × Operand)} : opsS T O g all (⟨d, .buildSlice t n p, ty, ps, af, none⟩ :: r) (some ⟨e, h⟩) Q = opsS T O g all r (stH d e (doOp T O g e h (.buildSlice t n p))) Q := rfl
theorem ops_makeFunc {fn : Go.Fn} {a b : Array Operand} : opsS T O g all (⟨d, .makeFunc fn a b, ty, ps, af, none⟩ :: r) (some ⟨e, h⟩) Q = opsS T O g all r (stH d e (doOp T O g e h (.makeFunc fn a b))) Q := rfl
end

theorem st1_some {d : Option Tmp} {e : Env} {h : Heap} {v : SV} : st1 d e h (some v) = some ⟨putE e d (some v), h⟩ := rfl
theorem stH_some {d : Option Tmp} {e : Env} {h : Heap} {v : Option SV} : stH d e (some (v, h)) = some ⟨putE e d v, h⟩ := rfl
theorem stC_some {d : Option Tmp} {e : Env} {h' : Heap} {p : Prop} {r : SV} : stC d e (some (p, r, h')) = some ⟨putE e d (some r), h'⟩ := rfl
theorem growO_nil {h : Heap} {p : Prop} {r : SV} : growO h (some (p, r, [])) = some (p, r, h) := rfl
theorem growO_cons {h : Heap} {p : Prop} {r : SV} {b : List PC} {bs : List (List PC)} : growO h (some (p, r, b :: bs)) = some (p, r.up h.length, h ++ (b :: bs)) := rfl
theorem reqO_some {p X : Prop} {r : SV} {n : Heap} : reqO (some (p, r, n)) X = Reqs p X := rfl
theorem cndO_some {b : Bool} {A B : Prop} : cndO (some b) A B = cnd b A B := rfl
theorem putE_some {e : Env} {d : Nat} {v : Option SV} : putE e (some d) v = (d, v) :: e := rfl
theorem putE_none {e : Env} {v : Option SV} : putE e none v = e := rfl
theorem tell_some {e : Env} {d : Nat} {b : Bool} : tell e (some d) b = (d, some (sp (.bool b))) :: e := rfl
theorem look_cons {t t' : Nat} {v : Option SV} {r : Env} : look ((t', v) :: r) t = if t = t' then v else look r t := rfl
theorem opd_tmp {e : Env} {t : Nat} : opd e (.tmp t) = look e t := rfl
theorem opd_int {e : Env} {k : IntKind} {n : Int} : opd e (.const (.int k n)) = some (.v (.c (.p (.int k n)))) := rfl
theorem opd_bool {e : Env} {b : Bool} : opd e (.const (.bool b)) = some (.v (.c (.p (.bool b)))) := rfl
theorem opd_txt {e : Env} {s : ByteArray} : opd e (.const (.string s)) = some (.v (.c (.p (.str s)))) := rfl
theorem opd_nsl {e : Env} : opd e (.const (.slice none 0 0)) = some (.v (.c (.p (.sl none 0 0)))) := rfl
theorem opd_nf {e : Env} : opd e (.const .nilFunc) = some (.v (.c (.p .nf))) := rfl
theorem opd_np {e : Env} : opd e (.const (.pointer none)) = some (.v (.c (.p .np))) := rfl
theorem opd_func {e : Env} {f : Nat} : opd e (.func f) = some (.v (.c (.p (.fn f)))) := rfl
def toA : Option SV → Option AV
  | some (.v a) => some a
  | _ => none
def toP : Option SV → Option PC
  | some (.v (.c (.p a))) => some a
  | _ => none
theorem opdA_eq {e : Env} {x : Operand} : opdA e x = toA (opd e x) := by
  unfold opdA toA; split <;> simp_all
theorem opdP_eq {e : Env} {x : Operand} : opdP e x = toP (opd e x) := by
  unfold opdP toP; split <;> simp_all
theorem toA_v {a : AV} : toA (some (.v a)) = some a := rfl
theorem toP_v {a : PC} : toP (some (.v (.c (.p a)))) = some a := rfl
theorem sp_eq {x : PC} : sp x = .v (.c (.p x)) := rfl
theorem cells_p {x : PC} : cellsO (some (.c (.p x))) = some [x] := rfl
theorem cells_agg {xs : List PC} : cellsO (some (.agg xs)) = some xs := rfl
theorem cellsOf_p {x : PC} : cellsOf (.c (.p x)) = some [x] := rfl
theorem cellsOf_agg {xs : List PC} : cellsOf (.agg xs) = some xs := rfl
theorem boxO_some {h : Heap} {cs : List PC} : boxO h (some cs) = some (some (.v (.c (.ptr (.own h.length 0)))), h ++ [cs]) := rfl
theorem loadO_own {h : Heap} {i o : Nat} {d : TD} : loadO g h (some (.c (.ptr (.own i o)))) (some d) = loadC d o h[i]? := rfl
theorem loadO_giv {h : Heap} {j : Nat} {d : TD} {l : List PC} {m : Addr → Option PC} : loadO ⟨l, m⟩ h (some (.c (.ptr (.giv j)))) (some d) = bif d.agg then none else (l[j]?).map sp := rfl
theorem loadO_abs {h : Heap} {a : Addr} {d : TD} {l : List PC} {m : Addr → Option PC} : loadO ⟨l, m⟩ h (some (.c (.ptr (.abs a)))) (some d) = bif d.agg then (cellsAt m a 0 d.size).map (fun cs => .v (.agg cs)) else (m a).map sp := rfl
theorem gl_eq {l : List PC} : gl l = ⟨l, fun _ => none⟩ := rfl
theorem loadC_int {k : IntKind} {o : Nat} {cs : List PC} : loadC (tdInt k) o (some cs) = (cs[o]?).map sp := rfl
theorem loadC_bool {o : Nat} {cs : List PC} : loadC tdBool o (some cs) = (cs[o]?).map sp := rfl
theorem loadC_one {o : Nat} {cs : List PC} : loadC tdOne o (some cs) = (cs[o]?).map sp := rfl
theorem loadC_pair {k1 k2 : IntKind} {a b : PC} : loadC (tdPair k1 k2) 0 (some [a, b]) = some (.v (.agg [a, b])) := rfl
theorem storeO_own {h : Heap} {i o : Nat} {v : AV} {d : TD} : storeO h (some (.c (.ptr (.own i o)))) (some v) (some d) = storeC h i o d.size h[i]? (cellsOf v) := rfl
theorem loadC_row {z : List PC} {o : Nat} {cs : List PC} : loadC (tdRow z) o (some cs) = (cs[o]?).map sp := rfl
theorem loadC_tri {z0 z1 z2 a b c : PC} : loadC (tdTri z0 z1 z2) 0 (some [a, b, c]) = some (.v (.agg [a, b, c])) := rfl
theorem storeC_30 {h : Heap} {i : Nat} {a b c x : PC} : storeC h i 0 1 (some [a, b, c]) (some [x]) = some (none, h.set i [x, b, c]) := rfl
theorem storeC_31 {h : Heap} {i : Nat} {a b c x : PC} : storeC h i 1 1 (some [a, b, c]) (some [x]) = some (none, h.set i [a, x, c]) := rfl
theorem storeC_32 {h : Heap} {i : Nat} {a b c x : PC} : storeC h i 2 1 (some [a, b, c]) (some [x]) = some (none, h.set i [a, b, x]) := rfl
theorem size_tri {z0 z1 z2 : PC} : (tdTri z0 z1 z2).size = 3 := rfl
theorem faddr_t0 {i o : Nat} {z0 z1 z2 : PC} : faddrO 0 (some (.c (.ptr (.own i o)))) (some (tdTri z0 z1 z2)) = some (.v (.c (.ptr (.own i o)))) := rfl
theorem faddr_t1 {i : Nat} {z0 z1 z2 : PC} : faddrO 1 (some (.c (.ptr (.own i 0)))) (some (tdTri z0 z1 z2)) = some (.v (.c (.ptr (.own i 1)))) := rfl
theorem faddr_t2 {i : Nat} {z0 z1 z2 : PC} : faddrO 2 (some (.c (.ptr (.own i 0)))) (some (tdTri z0 z1 z2)) = some (.v (.c (.ptr (.own i 2)))) := rfl
theorem storeC_0 {h : Heap} {i : Nat} {a b x : PC} : storeC h i 0 1 (some [a, b]) (some [x]) = some (none, h.set i [x, b]) := rfl
theorem storeC_1 {h : Heap} {i : Nat} {a b x : PC} : storeC h i 1 1 (some [a, b]) (some [x]) = some (none, h.set i [a, x]) := rfl
theorem storeC_2 {h : Heap} {i : Nat} {a b x y : PC} : storeC h i 0 2 (some [a, b]) (some [x, y]) = some (none, h.set i [x, y]) := rfl
theorem storeC_c {h : Heap} {i : Nat} {a x : PC} : storeC h i 0 1 (some [a]) (some [x]) = some (none, h.set i [x]) := rfl
theorem size_int {k : IntKind} : (tdInt k).size = 1 := rfl
theorem size_bool : tdBool.size = 1 := rfl
theorem size_pair {k1 k2 : IntKind} : (tdPair k1 k2).size = 2 := rfl
theorem size_one : tdOne.size = 1 := rfl
theorem faddr_0 {i o : Nat} {k1 k2 : IntKind} : faddrO 0 (some (.c (.ptr (.own i o)))) (some (tdPair k1 k2)) = some (.v (.c (.ptr (.own i o)))) := rfl
theorem faddr_1 {i : Nat} {k1 k2 : IntKind} : faddrO 1 (some (.c (.ptr (.own i 0)))) (some (tdPair k1 k2)) = some (.v (.c (.ptr (.own i 1)))) := rfl
theorem field_0 {a b : PC} {k1 k2 : IntKind} : fieldO 0 (some (.agg [a, b])) (some (tdPair k1 k2)) = some (sp a) := rfl
theorem field_1 {a b : PC} {k1 k2 : IntKind} : fieldO 1 (some (.agg [a, b])) (some (tdPair k1 k2)) = some (sp b) := rfl
theorem conv_int {p : Bool} {hp : Heap} {mm : Addr → Option PC} {k k' : IntKind} {n : Int} {d : TD} : convH p hp mm (some (.c (.p (.int k' n)))) (some d) (some (tdInt k)) = some (some (sp (.int k (k.wrap n))), hp) := rfl
theorem un_not {b : Bool} : unO .not (some (.bool b)) = some (sp (.bool !b)) := rfl
theorem un_neg {k : IntKind} {n : Int} : unO .neg (some (.int k n)) = some (sp (.int k (k.wrap (0 - n)))) := rfl
theorem un_xor {k : IntKind} {n : Int} : unO .xor (some (.int k n)) = some (sp (.int k (k.wrap (BitVec.ofInt k.bits (if k.signed then -1 else k.max) ^^^ BitVec.ofInt k.bits n).toNat))) := rfl
theorem ext_0 {a : AV} {r : List AV} : extractO 0 (some (.tup (a :: r))) = some (.v a) := rfl
theorem ext_1 {a b : AV} {r : List AV} : extractO 1 (some (.tup (a :: b :: r))) = some (.v b) := rfl
theorem ext_2 {a b c : AV} {r : List AV} : extractO 2 (some (.tup (a :: b :: c :: r))) = some (.v c) := rfl
theorem max_2 {k k' : IntKind} {x y : Int} : builtinO .max (some [.c (.p (.int k x)), .c (.p (.int k' y))]) = some (sp (.int k (if y > x then y else x))) := rfl
theorem min_2 {k k' : IntKind} {x y : Int} : builtinO .min (some [.c (.p (.int k x)), .c (.p (.int k' y))]) = some (sp (.int k (if y < x then y else x))) := rfl
section
variable {t : Nat} {k : IntKind} {a b : Int}
theorem bin_add : binO T .add t (some (.c (.p (.int k a)))) (some (.c (.p (.int k b)))) = some (sp (.int k (k.wrap (a + b)))) := by simp [binO, bin, isSh, intBin]
theorem bin_sub : binO T .sub t (some (.c (.p (.int k a)))) (some (.c (.p (.int k b)))) = some (sp (.int k (k.wrap (a - b)))) := by simp [binO, bin, isSh, intBin]
theorem bin_mul : binO T .mul t (some (.c (.p (.int k a)))) (some (.c (.p (.int k b)))) = some (sp (.int k (k.wrap (a * b)))) := by simp [binO, bin, isSh, intBin]
theorem bin_and : binO T .and t (some (.c (.p (.int k a)))) (some (.c (.p (.int k b)))) = some (sp (.int k (k.wrap (BitVec.ofInt k.bits a &&& BitVec.ofInt k.bits b).toNat))) := by simp [binO, bin, isSh, intBin]
theorem bin_or : binO T .or t (some (.c (.p (.int k a)))) (some (.c (.p (.int k b)))) = some (sp (.int k (k.wrap (BitVec.ofInt k.bits a ||| BitVec.ofInt k.bits b).toNat))) := by simp [binO, bin, isSh, intBin]
theorem bin_xor : binO T .xor t (some (.c (.p (.int k a)))) (some (.c (.p (.int k b)))) = some (sp (.int k (k.wrap (BitVec.ofInt k.bits a ^^^ BitVec.ofInt k.bits b).toNat))) := by simp [binO, bin, isSh, intBin]
theorem bin_quo (hb : b ≠ 0) : binO T .quo t (some (.c (.p (.int k a)))) (some (.c (.p (.int k b)))) = some (sp (.int k (k.wrap (a.tdiv b)))) := by simp [binO, bin, isSh, intBin, hb]
theorem bin_rem (hb : b ≠ 0) : binO T .rem t (some (.c (.p (.int k a)))) (some (.c (.p (.int k b)))) = some (sp (.int k (a.tmod b))) := by simp [binO, bin, isSh, intBin, hb]
theorem bin_eql : binO T .eql t (some (.c (.p (.int k a)))) (some (.c (.p (.int k b)))) = some (sp (.bool (decide (a = b)))) := by simp [binO, bin, isSh, intBin, intBeq]
theorem bin_neq : binO T .neq t (some (.c (.p (.int k a)))) (some (.c (.p (.int k b)))) = some (sp (.bool (!decide (a = b)))) := by simp [binO, bin, isSh, intBin, bne, intBeq]
theorem bin_lss : binO T .lss t (some (.c (.p (.int k a)))) (some (.c (.p (.int k b)))) = some (sp (.bool (decide (a < b)))) := by simp [binO, bin, isSh, intBin]
theorem bin_leq : binO T .leq t (some (.c (.p (.int k a)))) (some (.c (.p (.int k b)))) = some (sp (.bool (decide (a ≤ b)))) := by simp [binO, bin, isSh, intBin]
theorem bin_gtr : binO T .gtr t (some (.c (.p (.int k a)))) (some (.c (.p (.int k b)))) = some (sp (.bool (decide (b < a)))) := by simp [binO, bin, isSh, intBin]
theorem bin_geq : binO T .geq t (some (.c (.p (.int k a)))) (some (.c (.p (.int k b)))) = some (sp (.bool (decide (b ≤ a)))) := by simp [binO, bin, isSh, intBin]
theorem bin_shl {k' : IntKind} (hb : ¬ b < 0) : binO T .shl t (some (.c (.p (.int k a)))) (some (.c (.p (.int k' b)))) = some (sp (.int k (k.wrap (a * 2 ^ (min b.toNat k.bits))))) := by simp [binO, bin, isSh, shBin, hb]
theorem bin_shr {k' : IntKind} (hb : ¬ b < 0) : binO T .shr t (some (.c (.p (.int k a)))) (some (.c (.p (.int k' b)))) = some (sp (.int k (a.fdiv (2 ^ (min b.toNat k.bits))))) := by simp [binO, bin, isSh, shBin, hb]
theorem binB_eql {x y : Bool} (hT : T t = some tdBool) : binO T .eql t (some (.c (.p (.bool x)))) (some (.c (.p (.bool y)))) = some (sp (.bool (x == y))) := by simp [binO, bin, hT, tdBool]
theorem binB_neq {x y : Bool} (hT : T t = some tdBool) : binO T .neq t (some (.c (.p (.bool x)))) (some (.c (.p (.bool y)))) = some (sp (.bool (x != y))) := by simp [binO, bin, hT, tdBool]
theorem binP_eql {k1 k2 : IntKind} {x1 x2 y1 y2 : Int} (hT : T t = some (tdPair k1 k2)) : binO T .eql t (some (.agg [.int k1 x1, .int k2 x2])) (some (.agg [.int k1 y1, .int k2 y2])) = some (sp (.bool (decide (x1 = y1) && decide (x2 = y2)))) := by
  simp [binO, bin, hT, tdPair, ints, intBeq]
theorem binP_neq {k1 k2 : IntKind} {x1 x2 y1 y2 : Int} (hT : T t = some (tdPair k1 k2)) : binO T .neq t (some (.agg [.int k1 x1, .int k2 x2])) (some (.agg [.int k1 y1, .int k2 y2])) = some (sp (.bool (!(decide (x1 = y1) && decide (x2 = y2))))) := by
  simp [binO, bin, hT, tdPair, ints, bne, intBeq]
end

theorem grd_b {b w : Bool} {A B C : Prop} : grd (some (.v (.c (.p (.bool b))))) w A B C = cndO (some (b == w)) A B := rfl
theorem grd_u {w : Bool} {A B C : Prop} : grd (some (.tup [])) w A B C = C := rfl
theorem slotV_some {e : Env} {d : Nat} : slotV e (some d) = look e d := rfl
theorem gateP_eq {e : Env} {c : Operand} : gateP e c = asBoolS (opd e c) := rfl
theorem gateO_some {e : Env} {d : Nat} : gateO e (some d) = asBoolS (look e d) := rfl
theorem asBoolS_b {b : Bool} : asBoolS (some (.v (.c (.p (.bool b))))) = some b := rfl
theorem slotOf_tmp {t : Nat} : slotOf (.tmp t) = some t := rfl
theorem gslot_0 {o : Oper} {r : List Oper} : gslot (o :: r) 0 = o.dst := rfl
theorem gslot_s {o : Oper} {r : List Oper} {j : Nat} : gslot (o :: r) (j + 1) = gslot r j := rfl
theorem beq_t {b : Bool} : (b == true) = b := by cases b <;> rfl
theorem beq_f {b : Bool} : (b == false) = !b := by cases b <;> rfl
theorem cnd_not {b : Bool} {A B : Prop} : cnd (!b) A B = cnd b B A := by cases b <;> rfl

theorem callR_eq {f : Operand} {l : List Operand} {e : Env} {h : Heap} : callR O g f l e h = callX O g h (calleeO (opdA e f)) (argsA e l) := rfl
theorem calleeO_fn {f : Nat} : calleeO (some (.c (.p (.fn f)))) = some (f, []) := rfl
theorem calleeO_clo {f : Nat} {caps : List Pt} : calleeO (some (.c (.clo f caps))) = some (f, caps) := rfl
theorem callX_some {h : Heap} {k : Nat} {caps : List Pt} {args : List AV} : callX O g h (some (k, caps)) (some args) = mX O g h k (args ++ capsA caps) (O.m k) := rfl
theorem mX_none {h : Heap} {k : Nat} {args : List AV} : mX O g h k args none = growO h (tellO O k (trArgs h g [] args)) := rfl
theorem mX_some {h : Heap} {k : Nat} {args : List AV} {M : MT} {l : List PC} {m : Addr → Option PC} : mX O ⟨l, m⟩ h k args (some M) = M m args h := rfl
theorem orc_m {P : Program} {l : List (OE P)} {k : Nat} : (orc l).m k = none := rfl
theorem orcM_m {P : Program} {l : List (OE P)} {ms : List (ME P)} {k : Nat} : (orcM l ms).m k = orcMs ms k := rfl
theorem orcB_m {P : Program} {l : List (OE P)} {ms : List (ME P)} {k : Nat} : (orcB l ms).m k = orcMs ms k := rfl
theorem orcMs_nil {P : Program} {k : Nat} : orcMs ([] : List (ME P)) k = none := rfl
theorem orcMs_cons {P : Program} {k m : Nat} {M : MT} {o : Bool} {ho : o = true → OneM M} {ok : Mn P m M} {r : List (ME P)} : orcMs (⟨m, M, o, ho, ok⟩ :: r) k = bif Nat.beq k m then some M else orcMs r k := rfl
theorem tellO_some {P : Program} {ls : List (OE P)} {k : Nat} {l : List AV} {g' : List PC} : tellO (orc ls) k (some (l, g')) = orcF ls k l g' := rfl
theorem tellM_some {P : Program} {ls : List (OE P)} {ms : List (ME P)} {k : Nat} {l : List AV} {g' : List PC} : tellO (orcM ls ms) k (some (l, g')) = orcF ls k l g' := rfl
theorem tellB_some {P : Program} {ls : List (OE P)} {ms : List (ME P)} {k : Nat} {l : List AV} {g' : List PC} : tellO (orcB ls ms) k (some (l, g')) = orcF ls k l g' := rfl
theorem orc_cons {P : Program} {m n : Nat} {F : List AV → List PC → Option (Prop × SV × List (List PC))} {ok : Fn P m F ∨ Ext P m F} {r : List (OE P)} {args : List AV} {g : List PC} :
    orcF (⟨m, F, ok⟩ :: r) n args g = if n = m then F args g else orcF r n args g := by
  simp only [orcF]
  by_cases h : n = m
  · subst h; rw [if_pos rfl, Nat.beq_refl]
  · rw [if_neg h]
    cases hb : Nat.beq n m with
    | true => exact absurd (Nat.eq_of_beq_eq_true hb) h
    | false => rfl
theorem alloc_pair {e : Env} {h : Heap} {t : Nat} {k1 k2 : IntKind} (hT : T t = some (tdPair k1 k2)) : doOp T O g e h (.alloc t) = some (some (.v (.c (.ptr (.own h.length 0)))), h ++ [[.int k1 0, .int k2 0]]) := by
  simp [doOp, hT, tdPair]
def build2 (d : TD) (h : Heap) : Option (List (Nat × PC)) → Option (Option SV × Heap)
  | some ps => match fillP (fun i => d.fields[i]?) d.zero ps with
    | some cs => some (some (.v (.agg cs)), h)
    | none => none
  | none => none
def conP (i : Nat) : Option PC → Option (List (Nat × PC)) → Option (List (Nat × PC))
  | some c, some l => some ((i, c) :: l)
  | _, _ => none
theorem partsP_cons {e : Env} {i : Nat} {x : Operand} {r : List (Nat × Operand)} : partsP e ((i, x) :: r) = conP i (opdP e x) (partsP e r) := by
  simp only [partsP, conP]; rfl
theorem partsP_nil {e : Env} : partsP e [] = some [] := rfl
theorem conP_some {i : Nat} {c : PC} {l : List (Nat × PC)} : conP i (some c) (some l) = some ((i, c) :: l) := rfl
theorem build_pair {e : Env} {h : Heap} {t : Nat} {k1 k2 : IntKind} {ps : List (Nat × Operand)} (hT : T t = some (tdPair k1 k2)) : doOp T O g e h (.build t ps.toArray) = build2 (tdPair k1 k2) h (partsP e ps) := by
  simp only [doOp, hT, build2]
  cases partsP e ps with
  | none => rfl
  | some l =>
    simp only [tdPair, Bool.false_eq_true, if_false, and_self, if_true]
    generalize fillP (fun i => [0, 1][i]?) [PC.int k1 0, PC.int k2 0] l = x
    cases x <;> rfl
theorem build2_01 {h : Heap} {k1 k2 : IntKind} {a b : PC} : build2 (tdPair k1 k2) h (some [(0, a), (1, b)]) = some (some (.v (.agg [a, b])), h) := rfl
theorem build2_0 {h : Heap} {k1 k2 : IntKind} {a : PC} : build2 (tdPair k1 k2) h (some [(0, a)]) = some (some (.v (.agg [a, .int k2 0])), h) := rfl
theorem build2_1 {h : Heap} {k1 k2 : IntKind} {a : PC} : build2 (tdPair k1 k2) h (some [(1, a)]) = some (some (.v (.agg [.int k1 0, a])), h) := rfl
theorem build2_n {h : Heap} {k1 k2 : IntKind} : build2 (tdPair k1 k2) h (some []) = some (some (.v (.agg [.int k1 0, .int k2 0])), h) := rfl
theorem argsA_nil {e : Env} : argsA e [] = some [] := rfl
def consO : Option AV → Option (List AV) → Option (List AV)
  | some a, some l => some (a :: l)
  | _, _ => none
theorem argsA_cons {e : Env} {x : Operand} {r : List Operand} : argsA e (x :: r) = consO (opdA e x) (argsA e r) := by
  simp only [argsA, consO]; rfl
theorem consO_some {a : AV} {l : List AV} : consO (some a) (some l) = some (a :: l) := rfl

theorem ends_r {rs : List ResultVar} {r : SV} {new : Heap} {s : St} : EndsS T g rs r new .ret s = endS r new s.heap (resAll T g s rs) := rfl
theorem endsM_r {rs : List ResultVar} {k : Nat} {r : SV} {h' : Heap} {s : St} : EndsM T g rs k r h' .ret s = endM k r h' s.heap (resAll T g s rs) := rfl
theorem endsM_n {rs : List ResultVar} {k : Nat} {r : SV} {h' : Heap} {s : St} : EndsM T g rs k r h' .normal s = endM k r h' s.heap (resAll T g s rs) := rfl
/-- The end of a function that leaves no new boxes. -/
theorem endM_same {k : Nat} {r : SV} {h' h1 : Heap} {l : List AV} (he : resSV l = r) (hp : r.plain k) (hr : r.ren k [] = r) (hk : h'.length = k) (hk1 : k ≤ h1.length) (ht : h1.take k = h') : endM k r h' h1 (some l) := by
  subst hk
  exact ⟨⟨[], by rw [he, hr], by simpa using hp, by simp, hk1, by rw [ht]; simp, by simp, fun j i cs hj => by simp at hj⟩⟩
theorem ends_n {rs : List ResultVar} {r : SV} {new : Heap} {s : St} : EndsS T g rs r new .normal s = endS r new s.heap (resAll T g s rs) := rfl
theorem resAll_nil {s : St} : resAll T g s [] = some [] := rfl
theorem resAll_cons {s : St} {r : ResultVar} {rs : List ResultVar} : resAll T g s (r :: rs) = consO (resV T g s r) (resAll T g s rs) := by
  simp only [resAll, consO]; rfl
theorem resV_tmp {e : Env} {h : Heap} {t : Nat} : resV T g ⟨e, h⟩ (.tmp t) = opdA e (.tmp t) := rfl
theorem resV_cell {e : Env} {h : Heap} {a t : Nat} : resV T g ⟨e, h⟩ (.cell a t) = resC h (opdA e (.tmp a)) (T t) := rfl
theorem resC_own {h : Heap} {i o : Nat} {d : TD} : resC h (some (.c (.ptr (.own i o)))) (some d) = cellV d o h[i]? := rfl
theorem cellV_pair {k1 k2 : IntKind} {a b : PC} : cellV (tdPair k1 k2) 0 (some [a, b]) = some (.agg [a, b]) := rfl
theorem cellV_int {k : IntKind} {a : PC} : cellV (tdInt k) 0 (some [a]) = some (.c (.p a)) := rfl
theorem cellV_bool {a : PC} : cellV tdBool 0 (some [a]) = some (.c (.p a)) := rfl
/-- The end of a function that leaves nothing behind. -/
theorem endS_one {a : AV} {r : SV} {h : Heap} (he : SV.v a = r) (hr : r.res []) : endS r [] h (some [a]) := ⟨he, hr, rfl⟩
theorem endS_tup {a b : AV} {l : List AV} {r : SV} {h : Heap} (he : SV.tup (a :: b :: l) = r) (hr : r.res []) : endS r [] h (some (a :: b :: l)) := ⟨he, hr, rfl⟩
end
end Go.Proofs.YtcnapkdccjibpaaGreatDoor.Eng
