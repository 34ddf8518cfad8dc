/- What the evaluator says of one operation holds of the model's run: operation by operation. -/
import Derived.Test.YtnkdmdjnnbkfgaaGreatEng3
namespace Go.Proofs.YtnkdmdjnnbkfgaaGreat.Eng
open Go Go.RowKit
set_option linter.unusedVariables false
set_option linter.unusedSimpArgs false

section
variable {P : Program} {w0 w : World} {ρ : List Nat} {h : Heap}

theorem Pt.up_conc {σ : List Nat} {G G' : List Addr} {q : Pt} (hq : q.res σ.length) : (q.up ρ.length).conc (ρ ++ σ) G = q.conc σ G' := by
  cases q with
  | own i o => simp only [Pt.up, Pt.conc, Pt.addr]; rw [getD_right]
  | giv j => exact hq.elim
theorem Cl.up_conc {σ : List Nat} {G G' : List Addr} {x : Cl} (hx : x.res σ.length) : (x.up ρ.length).conc (ρ ++ σ) G = x.conc σ G' := by
  cases x with
  | p x => rfl
  | ptr q => exact Pt.up_conc hx
  | clo f caps =>
    simp only [Cl.up, Cl.conc, List.map_map]
    congr 2
    exact List.map_congr_left fun q hq => Pt.up_conc (hx q hq)
  | row i n => simp only [Cl.up, Cl.conc]; rw [getD_right]
theorem AV.up_conc {σ : List Nat} {G G' : List Addr} {x : AV} (hx : x.res σ.length) : (x.up ρ.length).conc (ρ ++ σ) G = x.conc σ G' := by
  cases x with
  | c x => exact Cl.up_conc hx
  | agg xs => rfl
theorem SV.up_conc {σ : List Nat} {G G' : List Addr} {x : SV} (hx : x.res σ.length) : (x.up ρ.length).conc (ρ ++ σ) G = x.conc σ G' := by
  cases x with
  | v x => exact AV.up_conc hx
  | tup xs =>
    simp only [SV.up, SV.conc, List.map_map]
    congr 2
    exact List.map_congr_left fun q hq => AV.up_conc (hx q hq)

theorem Pt.up_wf {n m : Nat} {q : Pt} (hq : q.res m) : (q.up n).wf (n + m) := by
  cases q with
  | own i o => exact Nat.add_lt_add_left hq n
  | giv j => trivial
theorem Cl.up_wf {n m : Nat} {x : Cl} (hx : x.res m) : (x.up n).wf (n + m) := by
  cases x with
  | p x => trivial
  | ptr q => exact Pt.up_wf (q := q) hx
  | clo f caps =>
    intro q hq
    obtain ⟨q', hq', rfl⟩ := List.mem_map.1 hq
    exact Pt.up_wf (hx q' hq')
  | row i k => exact Nat.add_lt_add_left hx n
theorem AV.up_wf {n m : Nat} {x : AV} (hx : x.res m) : (x.up n).wf (n + m) := by
  cases x with
  | c x => exact Cl.up_wf (x := x) hx
  | agg xs => trivial
theorem SV.up_wf {n m : Nat} {x : SV} (hx : x.res m) : (x.up n).wf (n + m) := by
  cases x with
  | v x => exact AV.up_wf (x := x) hx
  | tup xs =>
    intro q hq
    obtain ⟨q', hq', rfl⟩ := List.mem_map.1 hq
    exact AV.up_wf (hx q' hq')

theorem res_zero_conc {σ : List Nat} {G G' : List Addr} {x : SV} (hx : x.res 0) : x.conc ρ G = x.conc σ G' := by
  have hp : ∀ q : Pt, q.res 0 → False := fun q hq => by cases q <;> simp [Pt.res] at hq
  have ha : ∀ y : AV, y.res 0 → y.conc ρ G = y.conc σ G' := fun y hy => by
    cases y with
    | agg xs => rfl
    | c y =>
      cases y with
      | p y => rfl
      | ptr q => exact (hp q hy).elim
      | clo f caps =>
        cases caps with
        | nil => rfl
        | cons q r => exact (hp q (hy q (by simp))).elim
      | row i n => exact absurd hy (Nat.not_lt_zero _)
  cases x with
  | v x => exact ha x hx
  | tup xs =>
    simp only [SV.conc]
    congr 2
    exact List.map_congr_left fun q hq => ha q (hx q hq)
theorem res_wf {n : Nat} {x : SV} (hx : x.res 0) : x.wf n := by
  have hp : ∀ q : Pt, q.res 0 → False := fun q hq => by cases q <;> simp [Pt.res] at hq
  have ha : ∀ y : AV, y.res 0 → y.wf n := fun y hy => by
    cases y with
    | agg xs => trivial
    | c y =>
      cases y with
      | p y => trivial
      | ptr q => exact (hp q hy).elim
      | clo f caps => exact fun q hq => (hp q (hy q hq)).elim
      | row i k => exact absurd hy (Nat.not_lt_zero _)
  cases x with
  | v x => exact ha x hx
  | tup xs => exact fun q hq => ha q (hx q hq)

/-- An operation that yields a value and leaves the world. -/
theorem wp_of_value {o : Oper} {a : Act} {next : Act → World → Prop} {Q : Exit → Act → World → Prop} {x : Value} {w' : World}
    (hr : (execOp a.eval o).run P w = .ok (.value x) w') (hn : next (a.put o.dst x) w') : o.wp P a w next Q := by
  unfold Oper.wp; rw [hr]; exact hn
theorem wp_of_skip {o : Oper} {a : Act} {next : Act → World → Prop} {Q : Exit → Act → World → Prop} {w' : World}
    (hr : (execOp a.eval o).run P w = .ok .skip w') (hn : next (a.put o.dst undef) w') : o.wp P a w next Q := by
  unfold Oper.wp; rw [hr]; exact hn

theorem intBin_ok {op : BinOp} {k : IntKind} {a b : Int} {r : PC} (hr : intBin op k a b = some r) (t : TypeId) (hs : isSh op = false) : (binOp op t (.int k a) (.int k b)).run P w = .ok r.conc w := by
  cases op <;> simp only [intBin] at hr <;>
    first
      | (simp [isSh] at hs; done)
      | (cases hr; done)
      | (obtain rfl := Option.some.inj hr; simp [binOp, Op.intArith, Op.intBits, Op.intCmp, PC.conc]; done)
      | (split at hr
         · cases hr
         · rename_i h0; obtain rfl := Option.some.inj hr; simp [binOp, Op.intDiv, h0, PC.conc])

theorem shBin_ok {op : BinOp} {k k' : IntKind} {a b : Int} {r : PC} (hr : shBin op k a b = some r) (t : TypeId) : (binOp op t (.int k a) (.int k' b)).run P w = .ok r.conc w := by
  cases op <;> simp only [shBin] at hr <;>
    first
      | (cases hr; done)
      | (split at hr
         · cases hr
         · rename_i h0; obtain rfl := Option.some.inj hr; simp [binOp, Op.shift, h0, PC.conc])

theorem eqGuard_int (op : BinOp) (t : TypeId) (x y : Operand) (k k' : IntKind) (a b : Int) : (eqGuard op t x y (.int k a) (.int k' b)).run P w = .ok () w := by
  unfold eqGuard
  by_cases hc : (!(op matches .eql | .neq)) = true <;> simp [hc]
theorem eqGuard_bool (op : BinOp) (t : TypeId) (x y : Operand) (a b : Bool) : (eqGuard op t x y (.bool a) (.bool b)).run P w = .ok () w := by
  unfold eqGuard
  by_cases hc : (!(op matches .eql | .neq)) = true <;> simp [hc]

theorem bin_ok {T : Tab} (hT : ∀ t d, T t = some d → TdOk P t d) {op : BinOp} {t : Nat} {a b : AV} {r : PC} (hr : bin T op t a b = some r) (G : List Addr) (x y : Operand) :
    (do eqGuard op t x y (a.conc ρ G) (b.conc ρ G); binOp op t (a.conc ρ G) (b.conc ρ G)).run P w = .ok r.conc w := by
  unfold bin at hr
  split at hr
  · rename_i k a k' b
    simp only [AV.conc, Cl.conc, PC.conc, Sem.run_bind, eqGuard_int, Result.andThen_ok]
    split at hr
    · exact shBin_ok hr t
    · rename_i hs
      split at hr
      · rename_i e; subst e
        exact intBin_ok hr t (by simpa using hs)
      · cases hr
  · rename_i a b
    simp only [AV.conc, Cl.conc, PC.conc, Sem.run_bind, eqGuard_bool, Result.andThen_ok]
    split at hr
    · rename_i d hd
      split at hr
      · rename_i hb
        have he := (hT t d hd).eqB hb
        cases op <;> simp at hr <;> subst hr <;> simp [binOp, he, PC.conc, bne]
      · cases hr
    · cases hr
  · rename_i xs ys
    split at hr
    · rename_i d hd
      split at hr
      · cases hr
      · rename_i hk
        split at hr
        · rename_i l m hl hm
          have he := (hT t d hd).eq hk xs ys l m hl hm
          cases op <;> simp at hr <;> subst hr <;> simp [AV.conc, binOp, aggOf, (he w x y).1, (he w x y).2.1, (he w x y).2.2, PC.conc, bne] <;>
            first
              | (have := he w x y; simp only [aggOf] at this; simp [this.1, this.2.1, this.2.2, PC.conc, bne]; done)
              | skip
        · cases hr
    · cases hr
  · cases hr

theorem un_ok {op : UnOp} {x r : PC} (hr : un op x = some r) : (Op.unary op x.conc).run P w = .ok r.conc w := by
  cases op <;> cases x <;> simp [un] at hr <;> subst hr <;> simp [Op.unary, Op.intArith, Op.intBits, PC.conc]

theorem foldlM_ok {f : PC → PC → Option PC} {F : Value → Value → Sem Value} (hf : ∀ x y z, f x y = some z → (F x.conc y.conc).run P w = .ok z.conc w) :
    ∀ (l : List PC) (x r : PC), foldPC f x l = some r → ((l.map PC.conc).foldlM F x.conc).run P w = .ok r.conc w
  | [], x, r, hr => by simp [foldPC] at hr; subst hr; simp
  | y :: l, x, r, hr => by
    simp only [foldPC] at hr
    split at hr
    · rename_i z hz
      simp only [List.map_cons, List.foldlM_cons, Sem.run_bind, hf x y z hz, Result.andThen_ok]
      exact foldlM_ok hf l z r hr
    · cases hr

theorem allP_conc {args : List AV} {xs : List PC} (hx : allP args = some xs) (G : List Addr) : args.map (AV.conc ρ G) = xs.map PC.conc := by
  induction args generalizing xs with
  | nil => simp [allP] at hx; subst hx; rfl
  | cons a r ih =>
    cases a with
    | agg ys => simp [allP] at hx
    | c y =>
      cases y <;> simp [allP] at hx
      obtain ⟨l, hl, rfl⟩ := hx
      simp [ih hl, AV.conc, Cl.conc]

theorem argsA_ok {G : List Addr} {env : Env} {a : Act} (hE : ER ρ G env a.tmps) : ∀ {xs : List Operand} {l : List AV}, argsA env xs = some l → xs.map a.eval = l.map (AV.conc ρ G) ∧ ∀ y ∈ l, y.wf ρ.length
  | [], l, hl => by simp [argsA] at hl; subst hl; simp
  | x :: r, l, hl => by
    simp only [argsA] at hl
    split at hl
    · rename_i y l' hy hl'
      simp at hl; subst hl
      have h1 := hE.opdA hy
      have h2 := argsA_ok hE hl'
      refine ⟨by simp [h1.1, h2.1], ?_⟩
      intro z hz
      rcases List.mem_cons.1 hz with rfl | hz
      · exact h1.2
      · exact h2.2 z hz
    · cases hl

theorem partsP_ok {G : List Addr} {env : Env} {a : Act} (hE : ER ρ G env a.tmps) : ∀ {ps : List (Nat × Operand)} {l : List (Nat × PC)}, partsP env ps = some l → ps.map (fun (i, x) => (i, a.eval x)) = l.map (fun (i, c) => (i, c.conc))
  | [], l, hl => by simp [partsP] at hl; subst hl; simp
  | (i, x) :: r, l, hl => by
    simp only [partsP] at hl
    split at hl
    · rename_i y l' hy hl'
      simp at hl; subst hl
      simp [hE.opdP hy, partsP_ok hE hl']
    · cases hl

theorem fillP_ok {place : Nat → Option Nat} : ∀ {ps : List (Nat × PC)} {cells r : List PC}, fillP place cells ps = some r →
    Instr.fill (fun i => (place i).map (·, 1)) (cells.map PC.conc).toArray (ps.map fun (i, c) => (i, c.conc)) = some (r.map PC.conc).toArray
  | [], cells, r, hr => by simp [fillP] at hr; subst hr; simp [Instr.fill]
  | (i, c) :: ps, cells, r, hr => by
    simp only [fillP] at hr
    split at hr
    · rename_i o ho
      split at hr
      · rename_i hlt
        have ih := fillP_ok hr
        simp only [List.map_cons, Instr.fill, ho, Option.map_some, PC.cells_conc]
        rw [if_neg (by simp; omega)]
        rw [← ih]
        congr 1
        simp [Array.zipIdx, List.map_set]
      · cases hr
    · cases hr

end
end Go.Proofs.YtnkdmdjnnbkfgaaGreat.Eng
