/- The evaluator's values and the model's: how they stand to one another. -/
import Derived.Test.YtcnapkdccjibpaaGreatDoorEng1
import Derived.Laws.Tables
import Derived.Laws.Rows
import Derived.Laws.CopyRow
import Derived.Laws.Cells
import Derived.Shelf.Abstract
namespace Go.Proofs.YtcnapkdccjibpaaGreatDoor.Eng
open Go Go.RowKit
set_option linter.unusedVariables false
set_option linter.unusedSimpArgs false

/-- What is told of boxes stays so. -/
def Le (ρ ρ' : List Blk) : Prop := ∀ i, (blk ρ i).ok = true → blk ρ' i = blk ρ i
theorem Le.refl (ρ : List Blk) : Le ρ ρ := fun _ _ => rfl
theorem Le.trans {a b c : List Blk} (h1 : Le a b) (h2 : Le b c) : Le a c := fun i hi => (h2 i (by rw [h1 i hi]; exact hi)).trans (h1 i hi)
theorem blk_left {ρ σ : List Blk} {i : Nat} (h : i < ρ.length) : blk (ρ ++ σ) i = blk ρ i := by
  simp [blk, List.getD, List.getElem?_append_left h]
theorem blk_right {ρ σ : List Blk} {i : Nat} : blk (ρ ++ σ) (ρ.length + i) = blk σ i := by
  simp [blk, List.getD, List.getElem?_append_right (Nat.le_add_right ρ.length i)]
theorem blk_lt {ρ : List Blk} {i : Nat} (h : (blk ρ i).ok = true) : i < ρ.length := by
  apply Nat.lt_of_not_le
  intro hle
  simp [blk, List.getD, List.getElem?_eq_none hle] at h
theorem Le.app (ρ σ : List Blk) : Le ρ (ρ ++ σ) := fun _ hi => blk_left (blk_lt hi)
/-- The boxes told so far stay as they are, told or not. -/
def Lq (ρ ρ' : List Blk) : Prop := ρ.length ≤ ρ'.length ∧ ∀ i, i < ρ.length → blk ρ' i = blk ρ i
theorem Lq.le {ρ ρ' : List Blk} (h : Lq ρ ρ') : Le ρ ρ' := fun i hi => h.2 i (blk_lt hi)
theorem Lq.refl (ρ : List Blk) : Lq ρ ρ := ⟨Nat.le_refl _, fun _ _ => rfl⟩
theorem Lq.trans {a b c : List Blk} (h1 : Lq a b) (h2 : Lq b c) : Lq a c := ⟨Nat.le_trans h1.1 h2.1, fun i hi => (h2.2 i (Nat.lt_of_lt_of_le hi h1.1)).trans (h1.2 i hi)⟩
theorem Lq.app (ρ σ : List Blk) : Lq ρ (ρ ++ σ) := ⟨by simp, fun i hi => blk_left hi⟩
theorem Lq.nil (ρ : List Blk) : Lq [] ρ := ⟨by simp, fun i hi => by simp at hi⟩

theorem Pt.conc_ext {ρ ρ' : List Blk} {G : List Addr} {q : Pt} (h : q.wf ρ) (l : Le ρ ρ') : q.conc ρ' G = q.conc ρ G := by
  cases q with
  | own i o => simp only [Pt.conc, Pt.addr]; rw [l i h]
  | giv j => rfl
  | abs a => rfl

theorem Cl.conc_ext {ρ ρ' : List Blk} {G : List Addr} {x : Cl} (h : x.wf ρ) (l : Le ρ ρ') : x.conc ρ' G = x.conc ρ G := by
  cases x with
  | p x => rfl
  | ptr q => exact Pt.conc_ext h l
  | clo f caps =>
    simp only [Cl.conc]
    congr 2
    exact List.map_congr_left fun q hq => Pt.conc_ext (h q hq) l
  | row i o n z => simp only [Cl.conc]; rw [l i h]
  | emp i o => simp only [Cl.conc]; rw [l i h]

theorem AV.conc_ext {ρ ρ' : List Blk} {G : List Addr} {x : AV} (h : x.wf ρ) (l : Le ρ ρ') : x.conc ρ' G = x.conc ρ G := by
  cases x with
  | c x => exact Cl.conc_ext h l
  | agg xs => rfl

theorem SV.conc_ext {ρ ρ' : List Blk} {G : List Addr} {x : SV} (h : x.wf ρ) (l : Le ρ ρ') : x.conc ρ' G = x.conc ρ G := by
  cases x with
  | v x => exact AV.conc_ext h l
  | tup xs =>
    simp only [SV.conc]
    congr 2
    exact List.map_congr_left fun q hq => AV.conc_ext (h q hq) l

theorem Pt.wf_mono {ρ ρ' : List Blk} {q : Pt} (h : q.wf ρ) (l : Le ρ ρ') : q.wf ρ' := by
  cases q with
  | own i o => show (blk ρ' i).ok = true; rw [l i h]; exact h
  | giv j => trivial
  | abs a => trivial
theorem Cl.wf_mono {ρ ρ' : List Blk} {x : Cl} (h : x.wf ρ) (l : Le ρ ρ') : x.wf ρ' := by
  cases x with
  | p x => trivial
  | ptr q => exact Pt.wf_mono (q := q) h l
  | clo f caps => exact fun q hq => Pt.wf_mono (h q hq) l
  | row i o n z => show (blk ρ' i).ok = true; rw [l i h]; exact h
  | emp i o => show (blk ρ' i).ok = true; rw [l i h]; exact h
theorem AV.wf_mono {ρ ρ' : List Blk} {x : AV} (h : x.wf ρ) (l : Le ρ ρ') : x.wf ρ' := by
  cases x with
  | c x => exact Cl.wf_mono (x := x) h l
  | agg xs => trivial
theorem SV.wf_mono {ρ ρ' : List Blk} {x : SV} (h : x.wf ρ) (l : Le ρ ρ') : x.wf ρ' := by
  cases x with
  | v x => exact AV.wf_mono (x := x) h l
  | tup xs => exact fun q hq => AV.wf_mono (h q hq) l

/-- A block's kind, and the mark of a conversion: it lies behind the block's cells. -/
structure TF (k : Nat) where
  t : TypeId
  f : Nat × Nat
  ok : f = (0, 0) ∨ k ≤ f.1
/-- The own boxes stand in memory; w0 is the world in which the call began. -/
structure HR (w0 : World) (ρ : List Blk) (h : Heap) (w : World) : Prop where
  len : ρ.length = h.length
  cell : ∀ i cs, h[i]? = some cs → cs ≠ [] → (blk ρ i).ok = true ∧ w0.heap.size ≤ (blk ρ i).b ∧ ∃ (e : TF (blk ρ i).k) (ex : List Value), w.heap[(blk ρ i).b]? = some (.cells (cs.map PC.conc ++ ex).toArray e.t e.f) ∧ cs.length + ex.length = (blk ρ i).k
  apart : ∀ i j ci cj, i ≠ j → h[i]? = some ci → h[j]? = some cj → ci ≠ [] → cj ≠ [] → (blk ρ i).b ≠ (blk ρ j).b
  below : Below w0.heap.size w0 w

/-- The tables that start-up code lays: their blocks, kinds and numbers. -/
def laidTabs : List (Nat × IntKind × List Int) := [(5, .u64, [1, 10, 100, 1000, 10000, 100000, 1000000, 10000000, 100000000, 1000000000, 10000000000, 100000000000, 1000000000000, 10000000000000, 100000000000000, 1000000000000000, 10000000000000000, 100000000000000000, 1000000000000000000, 10000000000000000000])]
/-- Variables that hold some integer. -/
def laidInts : List (Nat × IntKind) := [(0, .i64)]
structure Tabs (w : World) : Prop where
  tab : ∀ x ∈ laidTabs, ∃ e t, w.heap[x.1]? = some (.cells (x.2.2.map fun z => Value.int x.2.1 z).toArray e t)
  int : ∀ x ∈ laidInts, x.1 < w.heap.size ∧ ∃ m, w.cell? ⟨x.1, 0, none⟩ = some (.int x.2 m)
theorem Tabs.later {w0 w : World} (h : Tabs w0) (hb : Below w0.heap.size w0 w) : Tabs w := by
  refine ⟨fun x hx => ?_, fun x hx => ?_⟩
  · obtain ⟨e, t, h1⟩ := h.tab x hx
    exact ⟨e, t, (hb.block x.1 (Array.getElem?_eq_some_iff.1 h1).1).trans h1⟩
  · obtain ⟨h1, m, h2⟩ := h.int x hx
    exact ⟨Nat.lt_of_lt_of_le h1 hb.size, m, (hb.cell (p := ⟨x.1, 0, none⟩) h1).trans h2⟩
/-- The given cells. -/
structure GR (G : List Addr) (g : List PC) (w : World) : Prop where
  cell : ∀ j c, g[j]? = some c → w.cell? (G.getD j default) = some c.conc ∧ (G.getD j default).block < w.heap.size
  tabs : Tabs w
/-- The given memory. -/
structure MR (m : Addr → Option PC) (w : World) : Prop where
  cell : ∀ a c, m a = some c → w.cell? a = some c.conc ∧ a.block < w.heap.size
  tabs : Tabs w
structure GV (G : List Addr) (g : Gv) (w : World) : Prop where
  gr : GR G g.l w
  mr : MR g.m w
theorem MR.none {w : World} (ht : Tabs w) : MR (fun _ => Option.none) w := ⟨fun a c h => (by cases h), ht⟩
theorem GR.nil (G : List Addr) {w : World} (ht : Tabs w) : GR G [] w := ⟨fun j c h => (by simp at h), ht⟩

structure ER (ρ : List Blk) (G : List Addr) (env : Env) (tmps : Array Value) : Prop where
  at_ : ∀ t v, look env t = some v → tmps[t]? = some (v.conc ρ G)
  wf : ∀ t v, look env t = some v → v.wf ρ

theorem GR.later {G : List Addr} {g : List PC} {w0 w : World} (h : GR G g w0) (hb : Below w0.heap.size w0 w) : GR G g w where
  cell j c hj := by
    obtain ⟨h1, h2⟩ := h.cell j c hj
    exact ⟨(hb.cell (p := G.getD j default) h2).trans h1, Nat.lt_of_lt_of_le h2 hb.size⟩
  tabs := h.tabs.later hb
theorem MR.later {m : Addr → Option PC} {w0 w : World} (h : MR m w0) (hb : Below w0.heap.size w0 w) : MR m w where
  cell a c ha := ⟨(hb.cell (p := a) (h.cell a c ha).2).trans (h.cell a c ha).1, Nat.lt_of_lt_of_le (h.cell a c ha).2 hb.size⟩
  tabs := h.tabs.later hb
theorem GV.later {G : List Addr} {g : Gv} {w0 w : World} (h : GV G g w0) (hb : Below w0.heap.size w0 w) : GV G g w := ⟨h.gr.later hb, h.mr.later hb⟩

theorem PC.oneCell (c : PC) : c.conc.oneCell' = true := by cases c <;> rfl
theorem PC.cells_conc (c : PC) : c.conc.cells = #[c.conc] := by cases c <;> rfl

theorem cellsOf_conc {a : AV} {cs : List PC} (h : cellsOf a = some cs) (ρ : List Blk) (G : List Addr) : (a.conc ρ G).cells = (cs.map PC.conc).toArray := by
  cases a with
  | c x => cases x <;> simp [cellsOf] at h; subst h; simp [AV.conc, Cl.conc, PC.cells_conc]
  | agg xs => simp [cellsOf] at h; subst h; rfl

theorem ER.opd {ρ : List Blk} {G : List Addr} {env : Env} {a : Act} (h : ER ρ G env a.tmps) {x : Operand} {v : SV} (hx : opd env x = some v) : a.eval x = v.conc ρ G ∧ v.wf ρ := by
  cases x with
  | tmp t =>
    have h1 := h.at_ t v hx
    exact ⟨by simp [Act.eval, h1], h.wf t v hx⟩
  | const c =>
    simp only [Eng.opd] at hx
    unfold ofValue at hx
    split at hx <;> first | (cases hx; done) | (obtain rfl := Option.some.inj hx; exact ⟨rfl, trivial⟩)
  | global g => cases hx
  | func f => simp [Eng.opd] at hx; subst hx; exact ⟨by simp [Act.eval, SV.conc, AV.conc, Cl.conc, PC.conc], trivial⟩

theorem ER.opdA {ρ : List Blk} {G : List Addr} {env : Env} {a : Act} (h : ER ρ G env a.tmps) {x : Operand} {v : AV} (hx : opdA env x = some v) : a.eval x = v.conc ρ G ∧ v.wf ρ := by
  unfold Eng.opdA at hx
  split at hx
  · rename_i b hb
    obtain rfl := Option.some.inj hx
    exact h.opd hb
  · cases hx

theorem ER.opdP {ρ : List Blk} {G : List Addr} {env : Env} {a : Act} (h : ER ρ G env a.tmps) {x : Operand} {v : PC} (hx : opdP env x = some v) : a.eval x = v.conc := by
  unfold Eng.opdP at hx
  split at hx
  · rename_i b hb
    obtain rfl := Option.some.inj hx
    exact (h.opd hb).1
  · cases hx

theorem ER.grow {ρ ρ' : List Blk} {G : List Addr} {env : Env} {tmps : Array Value} (h : ER ρ G env tmps) (l : Le ρ ρ') : ER ρ' G env tmps where
  at_ t v hv := by rw [SV.conc_ext (h.wf t v hv) l]; exact h.at_ t v hv
  wf t v hv := SV.wf_mono (h.wf t v hv) l

theorem ER.put {ρ : List Blk} {G : List Addr} {env : Env} {a : Act} (h : ER ρ G env a.tmps) {d : Option Tmp} {v : Option SV} {x : Value}
    (hd : ∀ t, d = some t → t < a.tmps.size) (hv : ∀ s, v = some s → x = s.conc ρ G ∧ s.wf ρ) : ER ρ G (putE env d v) (a.put d x).tmps := by
  cases d with
  | none => exact h
  | some d =>
    have hlt := hd d rfl
    constructor
    · intro t s hs
      simp only [putE, look] at hs
      simp only [Act.put]
      by_cases e : t = d
      · subst e
        rw [if_pos rfl] at hs
        simp [hlt, (hv s hs).1]
      · rw [if_neg e] at hs
        rw [Array.getElem?_setIfInBounds_ne (Ne.symm e)]
        exact h.at_ t s hs
    · intro t s hs
      simp only [putE, look] at hs
      by_cases e : t = d
      · rw [if_pos e] at hs; exact (hv s hs).2
      · rw [if_neg e] at hs; exact h.wf t s hs

theorem put_size (a : Act) (d : Option Tmp) (x : Value) : (a.put d x).tmps.size = a.tmps.size := by
  cases d <;> simp [Act.put]
theorem put_defers (a : Act) (d : Option Tmp) (x : Value) : (a.put d x).defers = a.defers := by
  cases d <;> simp [Act.put]

/-- What is asked of a type's row. -/
structure TdOk (P : Program) (t : Nat) (d : TD) : Prop where
  und : ∃ u, P.underlying t = some u
  isAgg : ∀ w, (isAgg t).run P w = .ok d.agg w
  sizeOf : ∀ w, (sizeOf t).run P w = .ok d.size w
  zero : d.zok = true → ∀ w, (zeroValue t).run P w = .ok (if d.agg then aggOf d.zero else (d.zero.getD 0 (.bool false)).conc) w
  one : d.zok = true → d.agg = false → d.zero.length = 1
  field : ∀ f q, d.fields[f]? = some q → ∀ b o w, (Instr.fieldAt t (.pointer (some ⟨b, o, none⟩)) f).run P w = .ok (.pointer (some ⟨b, o + q, none⟩)) w
  fieldV : ∀ f q, d.fields[f]? = some q → ∀ (xs : Array Value) c w, xs[q]? = some c → (Instr.field t (.agg xs) f).run P w = .ok c w
  conv : ∀ k, d.ik = some k → ∀ (s : Nat) u, P.underlying s = some u → ∀ k' m w, (convert s t (.int k' m)).run P w = .ok (.int k (k.wrap m)) w
  index : d.cells = true → d.agg = true → ∀ (xs : Array Value) (k : IntKind) (i : Int) (c : Value) w, 0 ≤ i → i < d.len → xs[i.toNat]? = some c → (Instr.index t (.agg xs) (.int k i)).run P w = .ok c w
  build : d.agg = true → d.zok = true → ∀ (parts : Array (Nat × Value)) cells w, Instr.fill (fun i => if d.cells then some (i, 1) else (d.fields[i]?).map (·, 1)) (d.zero.map PC.conc).toArray parts.toList = some cells → (Instr.build t parts).run P w = .ok (.agg cells) w
  row : d.row = true → ∃ e i z, P.underlying t = some (.slice e) ∧ P.info? e = some i ∧ i.zero = some z ∧ i.size = d.ez1.length ∧ z.cells = (d.ez1.map PC.conc).toArray ∧ 0 < d.ez1.length ∧ i.bytes ≤ 64 ∧ d.ez1.length ≤ 64
  eq : d.eqk ≠ [] → ∀ xs ys l m, ints d.eqk xs = some l → ints d.eqk ys = some m → ∀ w x y, (eqGuard .eql t x y (aggOf xs) (aggOf ys)).run P w = .ok () w ∧ (eqGuard .neq t x y (aggOf xs) (aggOf ys)).run P w = .ok () w ∧ (Op.equal t (aggOf xs) (aggOf ys)).run P w = .ok (l == m) w
  str : d.isStr = true → P.underlying t = some .string
  byt : d.byt = true → ∃ e, P.underlying t = some (.slice e) ∧ P.underlying e = some (.int .u8)
  eqB : d.isBool = true → ∀ a b w, (Op.equal t (.bool a) (.bool b)).run P w = .ok (a == b) w

/-- A box that says something. -/
def full (h : Heap) (i : Nat) : Prop := (h[i]?).getD [] ≠ []
/-- A result: it leads to no given cell. -/
def Pt.res (h : Heap) : Pt → Prop
  | .own i _ => full h i
  | .giv _ => False
  | .abs _ => True
def Cl.res (h : Heap) : Cl → Prop
  | .p _ => True
  | .ptr q => q.res h
  | .clo _ caps => ∀ q ∈ caps, q.res h
  | .row i _ _ _ => full h i
  | .emp i _ => full h i
def AV.res (h : Heap) : AV → Prop
  | .c x => x.res h
  | .agg _ => True
def SV.res (h : Heap) : SV → Prop
  | .v x => x.res h
  | .tup xs => ∀ x ∈ xs, x.res h

/-- What a number of a function stands for. -/
structure Fn (P : Program) (n : Nat) (F : List AV → List PC → Option (Prop × SV × List (List PC))) : Prop where
  enters : Enters P n
  calls : ∀ args g pre r new, F args g = some (pre, r, new) → pre → (∀ x ∈ args, x.wf []) → ∀ G w, GR G g w →
    Calls P n (args.map (AV.conc [] G)).toArray w fun e w' => ∃ σ, e = .returned (r.conc σ G) ∧ HR w σ new w' ∧ r.res new

/-- A function without a body: the model answers at once. -/
def Ext (P : Program) (n : Nat) (F : List AV → List PC → Option (Prop × SV × List (List PC))) : Prop :=
  ∀ args g pre r new, F args g = some (pre, r, new) → pre → ∀ G w, GR G g w → new = [] ∧ r.res [] ∧ (callFunc n (args.map (AV.conc [] G)).toArray).run P w = .ok (.value (r.conc [] G)) w

/-- A function that turns boxes. -/
structure Mn (P : Program) (n : Nat) (M : MT) : Prop where
  enters : Enters P n
  calls : ∀ m args h pre r h', M m args h = some (pre, r, h') → pre → ∀ w0 ρ G w, HR w0 ρ h w → MR m w0 → (∀ x ∈ args, x.wf ρ) →
    Calls P n (args.map (AV.conc ρ G)).toArray w fun e w' => ∃ ρ', e = .returned (r.conc ρ' G) ∧ Lq ρ ρ' ∧ HR w0 ρ' h' w' ∧ r.wf ρ'

structure Sound (P : Program) (O : Orc) : Prop where
  f : ∀ n args g x, O.f n args g = some x → Fn P n (O.f n) ∨ Ext P n (O.f n)
  m : ∀ n M, O.m n = some M → Mn P n M

end Go.Proofs.YtcnapkdccjibpaaGreatDoor.Eng
