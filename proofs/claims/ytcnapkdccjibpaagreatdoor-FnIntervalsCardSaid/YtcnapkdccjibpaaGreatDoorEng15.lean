/- What is asked of code is the less, the more it leaves open; so a loop is what it does once, and then the loop. -/
import Derived.Test.YtcnapkdccjibpaaGreatDoorEng14
namespace Go.Proofs.YtcnapkdccjibpaaGreatDoor.Eng
open Go Go.RowKit
set_option linter.unusedVariables false

section
variable {T : Tab} {O : Orc} {g : Gv}

theorem cndO_mono {o : Option Bool} {A B A' B' : Prop} (h1 : A → A') (h2 : B → B') (h : cndO o A B) : cndO o A' B' := by
  cases o with
  | none => exact h
  | some b => cases b with
    | true => exact h1 h
    | false => exact h2 h
theorem grd_mono {o : Option SV} {w : Bool} {A B C A' B' C' : Prop} (h1 : A → A') (h2 : B → B') (h3 : C → C') (h : grd o w A B C) : grd o w A' B' C' := by
  unfold grd at h ⊢
  split at h
  · rw [cnd_iff] at h ⊢; exact ⟨fun e => h1 (h.1 e), fun e => h2 (h.2 e)⟩
  · exact h3 h
  · exact h
theorem reqO_mono {o : Option (Prop × SV × Heap)} {X X' : Prop} (hx : X → X') (h : reqO o X) : reqO o X' := by
  cases o with
  | none => exact h
  | some x => exact ⟨h.pre, hx h.go⟩
theorem exec_mono {d : Option Tmp} {op : Op} {e : Env} {h : Heap} {K K' : Option St → Prop} (hk : ∀ s, K s → K' s) (hx : exec T O g d op e h K) : exec T O g d op e h K' := by
  unfold exec at hx ⊢
  split at hx
  · exact cndO_mono (hk _) (hk _) hx
  · exact reqO_mono (hk _) hx
  · exact hk _ hx
theorem opsS_mono {all : List Oper} {Q Q' : Ex → St → Prop} (hq : ∀ e s, Q e s → Q' e s) : ∀ {l : List Oper} {s : Option St}, opsS T O g all l s Q → opsS T O g all l s Q'
  | [], none, h => h
  | [], some s, h => hq _ _ h
  | o :: r, none, h => h
  | o :: r, some s, h => by
    simp only [opsS] at h ⊢
    split at h
    · exact exec_mono (fun s' hs => opsS_mono hq hs) h
    · exact grd_mono (exec_mono (fun s' hs => opsS_mono hq hs)) (opsS_mono hq) (opsS_mono hq) h
theorem ifS_mono {b : Bool} {A B : Prop} (h : A → B) (hx : ifS b A) : ifS b B := by
  cases b
  · exact hx
  · exact h hx
theorem freeK_mono {h : Heap} {n : Nat} {s' : Option (Option SV × Heap)} {K K' : Option SV → List PC → Prop} (hk : ∀ v c, K v c → K' v c) (hx : freeK h n s' K) : freeK h n s' K' := by
  unfold freeK at hx ⊢
  split at hx
  · rename_i v h'
    try simp only
    split at hx
    · rename_i cs hcs
      exact hk _ _ hx
    · exact hx
  · exact hx
theorem opDraw_mono {all : List Oper} {env : Env} {h : Heap} {A : Nat} {o : Oper} {vals : Vals} {fl : FL} {m : WS} {ls : Lds} {K K' : Vals → FL → WS → Lds → Prop} (hq : ∀ v f w l, K v f w l → K' v f w l) (hx : opDraw T O g all env h A o vals fl m ls K) : opDraw T O g all env h A o vals fl m ls K' := by
    unfold opDraw at hx ⊢
    refine ifS_mono (fun hx => ?_) hx
    cases hfr : isFree o with
    | true =>
      rw [hfr] at hx
      simp only [cond_true] at hx ⊢
      exact ifS_mono (exec_mono (fun s' hs => freeK_mono (fun v c => hq _ _ _ _) hs)) hx
    | false =>
      rw [hfr] at hx
      simp only [cond_false] at hx ⊢
      refine ifS_mono (exec_mono (fun s' hs => ?_)) hx
      split at hs
      · rename_i v h' hv
        try simp only
        split at hs
        · rename_i b hb
          exact ifS_mono (hq _ _ _ _) hs
        · rename_i hb
          try simp only
          cases hl : sameLen h' (heapN (fillH (waitsFor o) (h ++ List.replicate A []) fl) o m) with
          | true => rw [hl] at hs; exact hq _ _ _ _ hs
          | false =>
            rw [hl] at hs
            simp only [cond_false] at hs ⊢
            exact ifS_mono (hq _ _ _ _) hs
      · exact hs
theorem gateD_mono {gv : Option (Nat × Option SV)} {want : Bool} {vals : Vals} {A A' B B' : Vals → Prop} (ha : ∀ v, A v → A' v) (hb : ∀ v, B v → B' v) (hx : gateD gv want vals A B) : gateD gv want vals A' B' := by
  unfold gateD at hx ⊢
  split at hx
  · exact grd_mono (ha _) (hb _) (hb _) hx
  · exact hx
theorem drawsS_mono {all : List Oper} {env : Env} {h : Heap} {A : Nat} {Q Q' : Ex → St → Prop} (hq : ∀ e s, Q e s → Q' e s) : ∀ {l : List Oper} {vals : Vals} {fl : FL} {m : WS} {ls : Lds}, drawsS T O g all env h A l vals fl m ls Q → drawsS T O g all env h A l vals fl m ls Q'
  | [], vals, fl, m, ls, hx => ifS_mono (hq _ _) hx
  | o :: r, vals, fl, m, ls, hx => by
    simp only [drawsS] at hx ⊢
    split at hx
    · exact opDraw_mono (fun v f w l => drawsS_mono hq) hx
    · exact gateD_mono (fun v => opDraw_mono (fun v f w l => drawsS_mono hq)) (fun v => ifS_mono (drawsS_mono hq)) hx
theorem goS_mono : ∀ {c : Code} {s : Option St} {Q Q' : Ex → St → Prop}, (∀ e s, Q e s → Q' e s) → goS T O g c s Q → goS T O g c s Q' := by
  intro c
  induction c with
  | skip => intro s Q Q' hq h; cases s; exact h; exact hq _ _ h
  | ret => intro s Q Q' hq h; cases s; exact h; exact hq _ _ h
  | exit id => intro s Q Q' hq h; cases s; exact h; exact hq _ _ h
  | region id ops draw =>
    intro s Q Q' hq h
    cases s with
    | none => cases draw <;> exact h
    | some s => cases draw with
      | false => exact opsS_mono hq h
      | true =>
        simp only [goS] at h ⊢
        cases hb : O.brute with
        | true => rw [hb, cond_true] at h; exact allL_mono (fun l hl => opsS_mono hq hl) h
        | false => rw [hb, cond_false] at h; exact drawsS_mono hq h
  | seq x y ihx ihy =>
    intro s Q Q' hq h
    cases s with
    | none => exact h
    | some s =>
      refine ihx (fun e s' hs => ?_) h
      cases e with
      | normal => exact ihy hq hs
      | ret => exact hq _ _ hs
      | exit i => exact hq _ _ hs
  | cond c x y ihx ihy =>
    intro s Q Q' hq h
    cases s with
    | none => exact h
    | some s => exact cndO_mono (ihx hq) (ihy hq) h
  | block id body ih =>
    intro s Q Q' hq h
    cases s with
    | none => exact h
    | some s =>
      refine ih (fun e s' hs => ?_) h
      cases e with
      | normal => exact hq _ _ hs
      | ret => exact hq _ _ hs
      | exit i =>
        simp only [blockK] at hs ⊢
        split
        · rename_i hi; rw [if_pos hi] at hs; exact hq _ _ hs
        · rename_i hi; rw [if_neg hi] at hs; exact hq _ _ hs
  | loop body ih =>
    intro s Q Q' hq h
    cases s with
    | none => exact h
    | some s =>
      intro X hX
      refine h X (fun s' hs => hX s' (ih (fun e s'' hs' => ?_) hs))
      cases e with
      | normal => exact hs'
      | ret => exact hq _ _ hs'
      | exit i => exact hq _ _ hs'
  | rangeFunc f ps asg body _ _ => intro s Q Q' hq h; cases s <;> exact h.elim
  | scope body _ => intro s Q Q' hq h; cases s <;> exact h.elim
  | label l => intro s Q Q' hq h; cases s <;> exact h.elim
  | goto l => intro s Q Q' hq h; cases s <;> exact h.elim
  | refuse why => intro s Q Q' hq h; cases s <;> exact h.elim

/-- The loop behind a turn, as a word of its own. -/
def again (T : Tab) (O : Orc) (g : Gv) (body : Code) (Q : Ex → St → Prop) : Ex → St → Prop := seqK (fun s => goS T O g (.loop body) (some s) Q) Q
theorem again_n {body : Code} {Q : Ex → St → Prop} {s : St} : again T O g body Q .normal s = goS T O g (.loop body) (some s) Q := rfl
theorem again_r {body : Code} {Q : Ex → St → Prop} {s : St} : again T O g body Q .ret s = Q .ret s := rfl
theorem again_e {body : Code} {Q : Ex → St → Prop} {s : St} {i : Nat} : again T O g body Q (.exit i) s = Q (.exit i) s := rfl
theorem go_turn {body : Code} {Q : Ex → St → Prop} {s : St} (h : goS T O g body (some s) (again T O g body Q)) : goS T O g (.loop body) (some s) Q := by
  intro X hX
  refine hX s (goS_mono (fun e s' hs => ?_) h)
  cases e with
  | normal => exact hs X hX
  | ret => exact hs
  | exit i => exact hs
theorem go_turn_eq {body : Code} {Q : Ex → St → Prop} {s : St} : goS T O g (.loop body) (some s) Q = goS T O g body (some s) (again T O g body Q) := by
  refine propext ⟨fun h => ?_, go_turn⟩
  refine h (fun s => goS T O g body (some s) (again T O g body Q)) (fun s' hs => goS_mono (fun e s'' hs' => ?_) hs)
  cases e with
  | normal => exact go_turn hs'
  | ret => exact hs'
  | exit i => exact hs'

/-! ### Arguments, as the callee sees them -/

theorem capsA_nil : capsA [] = [] := rfl
theorem capsA_cons {q : Pt} {r : List Pt} : capsA (q :: r) = .c (.ptr q) :: capsA r := rfl
def consT (a : AV) : Option (List AV × List PC) → Option (List AV × List PC)
  | some (l, acc) => some (a :: l, acc)
  | none => none
theorem consT_some {a : AV} {l : List AV} {acc : List PC} : consT a (some (l, acc)) = some (a :: l, acc) := rfl
theorem trArgs_nil {h : Heap} {acc : List PC} : trArgs h g acc [] = some ([], acc) := rfl
theorem trArgs_agg {h : Heap} {acc : List PC} {xs : List PC} {r : List AV} : trArgs h g acc (.agg xs :: r) = consT (.agg xs) (trArgs h g acc r) := by
  simp only [trArgs, consT]; rfl
theorem trArgs_p {h : Heap} {acc : List PC} {x : PC} {r : List AV} : trArgs h g acc (.c (.p x) :: r) = consT (.c (.p x)) (trArgs h g acc r) := by
  simp only [trArgs, consT]; rfl
def ptrT (g : Gv) (h : Heap) (acc : List PC) (r : List AV) : Option PC → Option (List AV × List PC)
  | some c => consT (.c (.ptr (.giv acc.length))) (trArgs h g (acc ++ [c]) r)
  | none => none
theorem trArgs_ptr {h : Heap} {acc : List PC} {q : Pt} {r : List AV} : trArgs h g acc (.c (.ptr q) :: r) = ptrT g h acc r (loadCell h g q) := by
  simp only [trArgs, trPts, ptrT, consT]
  cases loadCell h g q with
  | none => rfl
  | some c =>
    simp only [List.map_cons, List.map_nil, List.cons_append, List.nil_append]; rfl
theorem ptrT_some {h : Heap} {acc : List PC} {r : List AV} {c : PC} : ptrT g h acc r (some c) = consT (.c (.ptr (.giv acc.length))) (trArgs h g (acc ++ [c]) r) := rfl
def cloT (g : Gv) (h : Heap) (f : Nat) (r : List AV) : Option (List Pt × List PC) → Option (List AV × List PC)
  | some (qs, acc') => consT (.c (.clo f qs)) (trArgs h g acc' r)
  | none => none
theorem trArgs_clo {h : Heap} {acc : List PC} {f : Nat} {caps : List Pt} {r : List AV} : trArgs h g acc (.c (.clo f caps) :: r) = cloT g h f r (trPts h g acc caps) := by
  simp only [trArgs, cloT, consT]; rfl
theorem cloT_some {h : Heap} {f : Nat} {r : List AV} {qs : List Pt} {acc : List PC} : cloT g h f r (some (qs, acc)) = consT (.c (.clo f qs)) (trArgs h g acc r) := rfl
def consP (q : Pt) : Option (List Pt × List PC) → Option (List Pt × List PC)
  | some (qs, acc') => some (q :: qs, acc')
  | none => none
theorem consP_some {q : Pt} {qs : List Pt} {acc : List PC} : consP q (some (qs, acc)) = some (q :: qs, acc) := rfl
def ptsT (g : Gv) (h : Heap) (acc : List PC) (r : List Pt) : Option PC → Option (List Pt × List PC)
  | some c => consP (.giv acc.length) (trPts h g (acc ++ [c]) r)
  | none => none
theorem trPts_nil {h : Heap} {acc : List PC} : trPts h g acc [] = some ([], acc) := rfl
theorem trPts_cons {h : Heap} {acc : List PC} {q : Pt} {r : List Pt} : trPts h g acc (q :: r) = ptsT g h acc r (loadCell h g q) := by
  simp only [trPts, ptsT, consP]; rfl
theorem ptsT_some {h : Heap} {acc : List PC} {r : List Pt} {c : PC} : ptsT g h acc r (some c) = consP (.giv acc.length) (trPts h g (acc ++ [c]) r) := rfl
theorem loadCell_own {h : Heap} {i o : Nat} : loadCell h g (.own i o) = (h[i]?).bind (·[o]?) := rfl
theorem loadCell_giv {h : Heap} {j : Nat} {l : List PC} {m : Addr → Option PC} : loadCell h ⟨l, m⟩ (.giv j) = l[j]? := rfl
/-- A function value, with what it captured. -/
def ptrsO : Option (List AV) → Option (List Pt)
  | some l => ptrsOf l
  | none => none
def funcV (f : Nat) (h : Heap) : Option (List Pt) → Option (Option SV × Heap)
  | some [] => some (some (sp (.fn f)), h)
  | some qs => some (some (.v (.c (.clo f qs))), h)
  | none => none
theorem makeFunc_eq {e : Env} {h : Heap} {f : Nat} {l : List Operand} : doOp T O g e h (.makeFunc (.func f) #[] l.toArray) = funcV f h (ptrsO (argsA e l)) := by
  simp only [doOp, ptrsO]
  cases argsA e l with
  | none => rfl
  | some a =>
    simp only
    cases ptrsOf a with
    | none => rfl
    | some qs => cases qs <;> rfl
theorem ptrsO_some {l : List AV} : ptrsO (some l) = ptrsOf l := rfl
def consQ (q : Pt) : Option (List Pt) → Option (List Pt)
  | some l => some (q :: l)
  | none => none
theorem consQ_some {q : Pt} {l : List Pt} : consQ q (some l) = some (q :: l) := rfl
theorem ptrsOf_nil : ptrsOf [] = some [] := rfl
theorem ptrsOf_cons {q : Pt} {r : List AV} : ptrsOf (.c (.ptr q) :: r) = consQ q (ptrsOf r) := by
  simp only [ptrsOf, consQ]; rfl
theorem funcV_nil {f : Nat} {h : Heap} : funcV f h (some []) = some (some (sp (.fn f)), h) := rfl
theorem funcV_cons {f : Nat} {h : Heap} {q : Pt} {qs : List Pt} : funcV f h (some (q :: qs)) = some (some (.v (.c (.clo f (q :: qs)))), h) := rfl
theorem up_v {x : AV} {n : Nat} : (SV.v x).up n = .v (x.up n) := rfl
theorem up_tup {xs : List AV} {n : Nat} : (SV.tup xs).up n = .tup (xs.map (AV.up n)) := rfl
theorem up_agg {xs : List PC} {n : Nat} : (AV.agg xs).up n = .agg xs := rfl
theorem up_p {x : PC} {n : Nat} : (AV.c (.p x)).up n = .c (.p x) := rfl
theorem up_clo {f n : Nat} {caps : List Pt} : (AV.c (.clo f caps)).up n = .c (.clo f (caps.map (Pt.up n))) := rfl
theorem up_ptr {n : Nat} {q : Pt} : (AV.c (.ptr q)).up n = .c (.ptr (q.up n)) := rfl
theorem up_own {n i o : Nat} : (Pt.own i o).up n = .own (n + i) o := rfl
/-! ### Texts -/

/-- The text of these bytes. -/
def bs (l : List UInt8) : ByteArray := ⟨l.toArray⟩
theorem bs_mk {l : List UInt8} : ByteArray.mk (List.toArray l) = bs l := rfl
theorem bs_data {l : List UInt8} : (bs l).data.toList = l := by simp [bs]
theorem bs_of (s : ByteArray) : bs s.data.toList = s := by cases s; simp [bs]
theorem bs_size {l : List UInt8} : (bs l).size = l.length := by simp [bs, ByteArray.size]
theorem bs_inj {a b : List UInt8} (h : bs a = bs b) : a = b := by rw [← @bs_data a, h, bs_data]
/-- Not too long to be joined. -/
def shortL (l : List UInt8) : Bool := decide (l.length ≤ 4611686018427387903)
theorem shortL_0 : shortL [] = true := rfl
theorem shortL_1 {a : UInt8} : shortL [a] = true := rfl
theorem shortL_2 {a b : UInt8} : shortL [a, b] = true := rfl
theorem shortL_of {l : List UInt8} (h : l.length ≤ 4611686018427387903) : shortL l = true := by simpa [shortL] using h
theorem bin_cat {t : Nat} {x y : List UInt8} (hx : shortL x = true) (hy : shortL y = true) : binO T .add t (some (.c (.p (.str (bs x))))) (some (.c (.p (.str (bs y))))) = some (sp (.str (bs (x ++ y)))) := by
  simp only [shortL, decide_eq_true_eq] at hx hy
  have h : (bs x).size + (bs y).size ≤ 9223372036854775807 := by rw [bs_size, bs_size]; omega
  have e : bs x ++ bs y = bs (x ++ y) := by
    apply ByteArray.ext
    simp [bs, ByteArray.data_append]
  simp [binO, bin, h, e, sp]
theorem binT_eql {t : Nat} {x y : List UInt8} : binO T .eql t (some (.c (.p (.str (bs x))))) (some (.c (.p (.str (bs y))))) = some (sp (.bool (decide (x = y)))) := by
  simp [binO, bin, bs_data, sp]
theorem binT_neq {t : Nat} {x y : List UInt8} : binO T .neq t (some (.c (.p (.str (bs x))))) (some (.c (.p (.str (bs y))))) = some (sp (.bool (!decide (x = y)))) := by
  simp [binO, bin, bs_data, sp]
theorem lenF_txt {x : List UInt8} : lenF tdStr (.c (.p (.str (bs x)))) = some x.length := by simp [lenF, tdStr, bs_size]
theorem bs_extract {l : List UInt8} {a b : Nat} : (bs l).extract a b = bs ((l.take b).drop a) := by
  apply ByteArray.ext
  apply Array.ext'
  simp [bs, List.drop_take]
theorem idx_txt {h : Heap} {l : List UInt8} {k : IntKind} {j : Int} {b : UInt8} (h0 : 0 ≤ j) (hb : l[j.toNat]? = some b) : idxO h (some tdStr) (some (.c (.p (.str (bs l))))) (some (.int k j)) = some (some (sp (.int .u8 b.toNat)), h) := by
  have e : (bs l)[j.toNat]? = some b := by
    rw [← hb]
    have hs := @bs_size l
    simp only [getElem?_def, hs]
    rfl
  simp [idxO, tdStr, h0, e]
theorem slc_txt {h : Heap} {l : List UInt8} {a b : Int} (h0 : 0 ≤ a) (h1 : a ≤ b) (h2 : b ≤ l.length) : slcO h (some tdStr) (some (.c (.p (.str (bs l))))) (some (some a)) (some (some b)) (some none) = some (some (.v (.c (.p (.str (bs ((l.take b.toNat).drop a.toNat)))))), h) := by
  simp [slcO, sliceF, tdStr, bs_size, bs_extract, h0, h1, h2]
theorem slc_to {h : Heap} {l : List UInt8} {b : Int} (h1 : 0 ≤ b) (h2 : b ≤ l.length) : slcO h (some tdStr) (some (.c (.p (.str (bs l))))) (some none) (some (some b)) (some none) = some (some (.v (.c (.p (.str (bs (l.take b.toNat)))))), h) := by
  simp [slcO, sliceF, tdStr, bs_size, bs_extract, h1, h2]
theorem slc_from {h : Heap} {l : List UInt8} {a : Int} (h0 : 0 ≤ a) (h1 : a ≤ l.length) : slcO h (some tdStr) (some (.c (.p (.str (bs l))))) (some (some a)) (some none) (some none) = some (some (.v (.c (.p (.str (bs (l.drop a.toNat)))))), h) := by
  simp [slcO, sliceF, tdStr, bs_size, bs_extract, h0, h1]
/-- The text of a slice of bytes. -/
def textO : Option (Nat × List PC) → Option SV
  | some x => (bytesC x.2).map fun l => sp (.str (bs l))
  | none => none
theorem conv_txt {hp : Heap} {mm : Addr → Option PC} {i o n z : Nat} {v : Int} : convH false hp mm (some (.c (.row i o n z))) (some (tdRow [.int .u8 v])) (some tdStr) = convP hp (textO (rowCells 1 hp mm (.c (.row i o n z)))) := by
  show convP hp (convO _ _ _ _ _ _) = _
  congr 1
  cases h : rowCells 1 hp mm (.c (.row i o n z)) with
  | none => simp [convO, textO, textF, h]
  | some x =>
    obtain ⟨k, cs⟩ := x
    cases hb : bytesC cs with
    | none => simp [convO, textO, textF, h, hb, tdRow, isByt, tdStr]
    | some l => simp [convO, textO, textF, h, hb, tdRow, isByt, tdStr, bs]
theorem convP_some {hp : Heap} {v : SV} : convP hp (some v) = some (some v, hp) := rfl
def byteL (l : List UInt8) : List PC := l.map fun b => .int .u8 b.toNat
def shortB (l : List UInt8) : Bool := decide (0 < l.length ∧ l.length ≤ 1048576)
theorem conv_str {hp : Heap} {mm : Addr → Option PC} {l : List UInt8} {v : Int} (hl : shortB l = true) : convH false hp mm (some (.c (.p (.str (bs l))))) (some tdStr) (some (tdRow [.int .u8 v])) = some (some (.v (.c (.row hp.length 0 l.length 1))), hp ++ [byteL l]) := by
  have h0 : okB (bs l) = true := by simpa [okB, shortB, bs_size] using hl
  have h1 : (tdRow [.int .u8 v]).byt = true := rfl
  have h2 : tdStr.isStr = true := rfl
  simp only [convH, byteB, byteF, h0, h1, h2, and_self, if_true, bs_size]
  simp [bytesOf, byteL, bs_data]
theorem textO_some {n : Nat} {cs : List PC} : textO (some (n, cs)) = (bytesC cs).map fun l => sp (.str (bs l)) := rfl

end
end Go.Proofs.YtcnapkdccjibpaaGreatDoor.Eng
