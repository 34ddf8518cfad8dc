/- The evaluator's values and the model's: how they stand to one another. -/
import Derived.Test.YtnkdmdjnnbkfgaaGreatEng1
import Derived.Laws.Tables
import Derived.Laws.Rows
import Derived.Laws.CopyRow
import Derived.Laws.Cells
import Derived.Shelf.Abstract
namespace Go.Proofs.YtnkdmdjnnbkfgaaGreat.Eng
open Go Go.RowKit
set_option linter.unusedVariables false
set_option linter.unusedSimpArgs false

theorem getD_left {ρ σ : List Nat} {i : Nat} (h : i < ρ.length) : (ρ ++ σ).getD i 0 = ρ.getD i 0 := by
  simp [List.getD, List.getElem?_append_left h]

theorem Pt.conc_ext {ρ σ : List Nat} {G : List Addr} {q : Pt} (h : q.wf ρ.length) : q.conc (ρ ++ σ) G = q.conc ρ G := by
  cases q with
  | own i o => simp only [Pt.conc, Pt.addr]; rw [getD_left h]
  | giv j => rfl

theorem Cl.conc_ext {ρ σ : List Nat} {G : List Addr} {x : Cl} (h : x.wf ρ.length) : x.conc (ρ ++ σ) G = x.conc ρ G := by
  cases x with
  | p x => rfl
  | ptr q => exact Pt.conc_ext h
  | clo f caps =>
    simp only [Cl.conc]
    congr 2
    exact List.map_congr_left fun q hq => Pt.conc_ext (h q hq)
  | row i n => simp only [Cl.conc]; rw [getD_left h]

theorem AV.conc_ext {ρ σ : List Nat} {G : List Addr} {x : AV} (h : x.wf ρ.length) : x.conc (ρ ++ σ) G = x.conc ρ G := by
  cases x with
  | c x => exact Cl.conc_ext h
  | agg xs => rfl

theorem SV.conc_ext {ρ σ : List Nat} {G : List Addr} {x : SV} (h : x.wf ρ.length) : x.conc (ρ ++ σ) G = x.conc ρ G := by
  cases x with
  | v x => exact AV.conc_ext h
  | tup xs =>
    simp only [SV.conc]
    congr 2
    exact List.map_congr_left fun q hq => AV.conc_ext (h q hq)

theorem Pt.wf_mono {n m : Nat} {q : Pt} (h : q.wf n) (hn : n ≤ m) : q.wf m := by
  cases q with
  | own i o => exact Nat.lt_of_lt_of_le h hn
  | giv j => trivial
theorem Cl.wf_mono {n m : Nat} {x : Cl} (h : x.wf n) (hn : n ≤ m) : x.wf m := by
  cases x with
  | p x => trivial
  | ptr q => exact Pt.wf_mono (q := q) h hn
  | clo f caps => exact fun q hq => Pt.wf_mono (h q hq) hn
  | row i k => exact Nat.lt_of_lt_of_le h hn
theorem AV.wf_mono {n m : Nat} {x : AV} (h : x.wf n) (hn : n ≤ m) : x.wf m := by
  cases x with
  | c x => exact Cl.wf_mono (x := x) h hn
  | agg xs => trivial
theorem SV.wf_mono {n m : Nat} {x : SV} (h : x.wf n) (hn : n ≤ m) : x.wf m := by
  cases x with
  | v x => exact AV.wf_mono (x := x) h hn
  | tup xs => exact fun q hq => AV.wf_mono (h q hq) hn

/-- The own boxes stand in memory; w0 is the world in which the call began. -/
structure HR (w0 : World) (ρ : List Nat) (h : Heap) (w : World) : Prop where
  len : ρ.length = h.length
  cell : ∀ i cs, h[i]? = some cs → ∃ e, w.heap[ρ.getD i 0]? = some (.cells (cs.map PC.conc).toArray e (0, 0))
  nodup : ρ.Nodup
  own : ∀ b ∈ ρ, w0.heap.size ≤ b
  below : Below w0.heap.size w0 w

/-- The given cells. -/
structure GR (G : List Addr) (g : List PC) (w : World) : Prop where
  cell : ∀ j c, g[j]? = some c → w.cell? (G.getD j default) = some c.conc ∧ (G.getD j default).block < w.heap.size

structure ER (ρ : List Nat) (G : List Addr) (env : Env) (tmps : Array Value) : Prop where
  at_ : ∀ t v, look env t = some v → tmps[t]? = some (v.conc ρ G)
  wf : ∀ t v, look env t = some v → v.wf ρ.length

theorem GR.later {G : List Addr} {g : List PC} {w0 w : World} (h : GR G g w0) (hb : Below w0.heap.size w0 w) : GR G g w where
  cell j c hj := by
    obtain ⟨h1, h2⟩ := h.cell j c hj
    exact ⟨(hb.cell (p := G.getD j default) h2).trans h1, Nat.lt_of_lt_of_le h2 hb.size⟩

theorem PC.oneCell (c : PC) : c.conc.oneCell' = true := by cases c <;> rfl
theorem PC.cells_conc (c : PC) : c.conc.cells = #[c.conc] := by cases c <;> rfl

theorem cellsOf_conc {a : AV} {cs : List PC} (h : cellsOf a = some cs) (ρ : List Nat) (G : List Addr) : (a.conc ρ G).cells = (cs.map PC.conc).toArray := by
  cases a with
  | c x => cases x <;> simp [cellsOf] at h; subst h; simp [AV.conc, Cl.conc, PC.cells_conc]
  | agg xs => simp [cellsOf] at h; subst h; rfl

theorem ER.opd {ρ : List Nat} {G : List Addr} {env : Env} {a : Act} (h : ER ρ G env a.tmps) {x : Operand} {v : SV} (hx : opd env x = some v) : a.eval x = v.conc ρ G ∧ v.wf ρ.length := by
  cases x with
  | tmp t =>
    have h1 := h.at_ t v hx
    exact ⟨by simp [Act.eval, h1], h.wf t v hx⟩
  | const c =>
    cases c <;> simp [Eng.opd, ofValue] at hx <;> subst hx <;> exact ⟨rfl, trivial⟩
  | global g => cases hx
  | func f => simp [Eng.opd] at hx; subst hx; exact ⟨by simp [Act.eval, SV.conc, AV.conc, Cl.conc, PC.conc], trivial⟩

theorem ER.opdA {ρ : List Nat} {G : List Addr} {env : Env} {a : Act} (h : ER ρ G env a.tmps) {x : Operand} {v : AV} (hx : opdA env x = some v) : a.eval x = v.conc ρ G ∧ v.wf ρ.length := by
  unfold Eng.opdA at hx
  split at hx
  · rename_i b hb
    obtain rfl := Option.some.inj hx
    exact h.opd hb
  · cases hx

theorem ER.opdP {ρ : List Nat} {G : List Addr} {env : Env} {a : Act} (h : ER ρ G env a.tmps) {x : Operand} {v : PC} (hx : opdP env x = some v) : a.eval x = v.conc := by
  unfold Eng.opdP at hx
  split at hx
  · rename_i b hb
    obtain rfl := Option.some.inj hx
    exact (h.opd hb).1
  · cases hx

theorem ER.grow {ρ σ : List Nat} {G : List Addr} {env : Env} {tmps : Array Value} (h : ER ρ G env tmps) : ER (ρ ++ σ) G env tmps where
  at_ t v hv := by rw [SV.conc_ext (h.wf t v hv)]; exact h.at_ t v hv
  wf t v hv := SV.wf_mono (h.wf t v hv) (by simp)

theorem ER.put {ρ : List Nat} {G : List Addr} {env : Env} {a : Act} (h : ER ρ G env a.tmps) {d : Option Tmp} {v : Option SV} {x : Value}
    (hd : ∀ t, d = some t → t < a.tmps.size) (hv : ∀ s, v = some s → x = s.conc ρ G ∧ s.wf ρ.length) : ER ρ G (putE env d v) (a.put d x).tmps := by
  cases d with
  | none => exact h
  | some d =>
    have hlt := hd d rfl
    constructor
    · intro t s hs
      simp only [putE, look] at hs
      simp only [Act.put]
      by_cases e : t = d
      · subst e
        rw [if_pos rfl] at hs
        simp [hlt, (hv s hs).1]
      · rw [if_neg e] at hs
        rw [Array.getElem?_setIfInBounds_ne (Ne.symm e)]
        exact h.at_ t s hs
    · intro t s hs
      simp only [putE, look] at hs
      by_cases e : t = d
      · rw [if_pos e] at hs; exact (hv s hs).2
      · rw [if_neg e] at hs; exact h.wf t s hs

theorem put_size (a : Act) (d : Option Tmp) (x : Value) : (a.put d x).tmps.size = a.tmps.size := by
  cases d <;> simp [Act.put]
theorem put_defers (a : Act) (d : Option Tmp) (x : Value) : (a.put d x).defers = a.defers := by
  cases d <;> simp [Act.put]

/-- What is asked of a type's row. -/
structure TdOk (P : Program) (t : Nat) (d : TD) : Prop where
  und : ∃ u, P.underlying t = some u
  isAgg : ∀ w, (isAgg t).run P w = .ok d.agg w
  sizeOf : ∀ w, (sizeOf t).run P w = .ok d.size w
  zero : d.zok = true → ∀ w, (zeroValue t).run P w = .ok (if d.agg then aggOf d.zero else (d.zero.getD 0 (.bool false)).conc) w
  one : d.zok = true → d.agg = false → d.zero.length = 1
  field : ∀ f q, d.fields[f]? = some q → ∀ b o w, (Instr.fieldAt t (.pointer (some ⟨b, o, none⟩)) f).run P w = .ok (.pointer (some ⟨b, o + q, none⟩)) w
  fieldV : ∀ f q, d.fields[f]? = some q → ∀ (xs : Array Value) c w, xs[q]? = some c → (Instr.field t (.agg xs) f).run P w = .ok c w
  conv : ∀ k, d.ik = some k → ∀ (s : Nat) u, P.underlying s = some u → ∀ k' m w, (convert s t (.int k' m)).run P w = .ok (.int k (k.wrap m)) w
  index : d.cells = true → d.agg = true → ∀ (xs : Array Value) (k : IntKind) (i : Int) (c : Value) w, 0 ≤ i → i < d.len → xs[i.toNat]? = some c → (Instr.index t (.agg xs) (.int k i)).run P w = .ok c w
  indexAt : d.cells = true → d.agg = false → ∀ (b n c : Nat) (k : IntKind) (i : Int) w, 0 ≤ i → i < n → (Instr.indexAt t (.slice (some ⟨b, 0, none⟩) n c) (.int k i)).run P w = .ok (.pointer (some ⟨b, i.toNat, none⟩)) w
  build : d.agg = true → d.zok = true → ∀ (parts : Array (Nat × Value)) cells w, Instr.fill (fun i => if d.cells then some (i, 1) else (d.fields[i]?).map (·, 1)) (d.zero.map PC.conc).toArray parts.toList = some cells → (Instr.build t parts).run P w = .ok (.agg cells) w
  buildSlice : d.cells = true → d.agg = false → ∀ (n : Nat) (parts : Array (Nat × Value)) cells w, 0 < n → n ≤ 1000 → Instr.fill (fun i => some (i, 1)) (Array.replicate n d.ez.conc) parts.toList = some cells → ∃ e, (Instr.buildSlice t n parts).run P w = .ok (.slice (some ⟨w.heap.size, 0, none⟩) n n) (w.alloc (.cells cells e))
  eq : d.eqk ≠ [] → ∀ xs ys l m, ints d.eqk xs = some l → ints d.eqk ys = some m → ∀ w x y, (eqGuard .eql t x y (aggOf xs) (aggOf ys)).run P w = .ok () w ∧ (eqGuard .neq t x y (aggOf xs) (aggOf ys)).run P w = .ok () w ∧ (Op.equal t (aggOf xs) (aggOf ys)).run P w = .ok (l == m) w
  str : d.isStr = true → P.underlying t = some .string
  eqB : d.isBool = true → ∀ a b w, (Op.equal t (.bool a) (.bool b)).run P w = .ok (a == b) w

/-- A result: it leads to no given cell. -/
def Pt.res (n : Nat) : Pt → Prop
  | .own i _ => i < n
  | .giv _ => False
def Cl.res (n : Nat) : Cl → Prop
  | .p _ => True
  | .ptr q => q.res n
  | .clo _ caps => ∀ q ∈ caps, q.res n
  | .row i _ => i < n
def AV.res (n : Nat) : AV → Prop
  | .c x => x.res n
  | .agg _ => True
def SV.res (n : Nat) : SV → Prop
  | .v x => x.res n
  | .tup xs => ∀ x ∈ xs, x.res n

/-- What a number of a function stands for. -/
structure Fn (P : Program) (n : Nat) (F : List AV → List PC → Option (Prop × SV × List (List PC))) : Prop where
  enters : Enters P n
  calls : ∀ args g pre r new, F args g = some (pre, r, new) → pre → (∀ x ∈ args, x.wf 0) → ∀ G w, GR G g w →
    Calls P n (args.map (AV.conc [] G)).toArray w fun e w' => ∃ σ, e = .returned (r.conc σ G) ∧ HR w σ new w' ∧ r.res new.length

/-- A function without a body: the model answers at once. -/
def Ext (P : Program) (n : Nat) (F : List AV → List PC → Option (Prop × SV × List (List PC))) : Prop :=
  ∀ args g pre r new, F args g = some (pre, r, new) → pre → ∀ G w, GR G g w → new = [] ∧ r.res 0 ∧ (callFunc n (args.map (AV.conc [] G)).toArray).run P w = .ok (.value (r.conc [] G)) w

def Sound (P : Program) (O : Orc) : Prop := ∀ n args g x, O n args g = some x → Fn P n (O n) ∨ Ext P n (O n)

end Go.Proofs.YtnkdmdjnnbkfgaaGreat.Eng
