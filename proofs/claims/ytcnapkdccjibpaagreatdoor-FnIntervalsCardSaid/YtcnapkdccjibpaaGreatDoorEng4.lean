/- What the evaluator says of one operation holds of the model's run: operation by operation. -/
import Derived.Test.YtcnapkdccjibpaaGreatDoorEng3
namespace Go.Proofs.YtcnapkdccjibpaaGreatDoor.Eng
open Go Go.RowKit
set_option linter.unusedVariables false
set_option linter.unusedSimpArgs false

section
variable {P : Program} {w0 w : World} {ρ : List Blk} {h : Heap}

theorem Pt.up_conc {σ : List Blk} {G G' : List Addr} {q : Pt} {new : Heap} (hq : q.res new) : (q.up ρ.length).conc (ρ ++ σ) G = q.conc σ G' := by
  cases q with
  | own i o => simp only [Pt.up, Pt.conc, Pt.addr]; rw [blk_right]
  | giv j => exact hq.elim
  | abs a => rfl
theorem Cl.up_conc {σ : List Blk} {G G' : List Addr} {x : Cl} {new : Heap} (hx : x.res new) : (x.up ρ.length).conc (ρ ++ σ) G = x.conc σ G' := by
  cases x with
  | p x => rfl
  | ptr q => exact Pt.up_conc (q := q) hx
  | clo f caps =>
    simp only [Cl.up, Cl.conc, List.map_map]
    congr 2
    exact List.map_congr_left fun q hq => Pt.up_conc (hx q hq)
  | row i o n z => simp only [Cl.up, Cl.conc]; rw [blk_right]
  | emp i o => simp only [Cl.up, Cl.conc]; rw [blk_right]
theorem AV.up_conc {σ : List Blk} {G G' : List Addr} {x : AV} {new : Heap} (hx : x.res new) : (x.up ρ.length).conc (ρ ++ σ) G = x.conc σ G' := by
  cases x with
  | c x => exact Cl.up_conc (x := x) hx
  | agg xs => rfl
theorem SV.up_conc {σ : List Blk} {G G' : List Addr} {x : SV} {new : Heap} (hx : x.res new) : (x.up ρ.length).conc (ρ ++ σ) G = x.conc σ G' := by
  cases x with
  | v x => exact AV.up_conc (x := x) hx
  | tup xs =>
    simp only [SV.up, SV.conc, List.map_map]
    congr 2
    exact List.map_congr_left fun q hq => AV.up_conc (hx q hq)

theorem Pt.up_wf {σ : List Blk} {q : Pt} {new : Heap} (ho : ∀ i, full new i → (blk σ i).ok = true) (hq : q.res new) : (q.up ρ.length).wf (ρ ++ σ) := by
  cases q with
  | own i o => show (blk (ρ ++ σ) (ρ.length + i)).ok = true; rw [blk_right]; exact ho i hq
  | giv j => trivial
  | abs a => trivial
theorem Cl.up_wf {σ : List Blk} {x : Cl} {new : Heap} (ho : ∀ i, full new i → (blk σ i).ok = true) (hx : x.res new) : (x.up ρ.length).wf (ρ ++ σ) := by
  cases x with
  | p x => trivial
  | ptr q => exact Pt.up_wf (q := q) ho hx
  | clo f caps =>
    intro q hq
    obtain ⟨q', hq', rfl⟩ := List.mem_map.1 hq
    exact Pt.up_wf ho (hx q' hq')
  | row i o n z => show (blk (ρ ++ σ) (ρ.length + i)).ok = true; rw [blk_right]; exact ho i hx
  | emp i o => show (blk (ρ ++ σ) (ρ.length + i)).ok = true; rw [blk_right]; exact ho i hx
theorem AV.up_wf {σ : List Blk} {x : AV} {new : Heap} (ho : ∀ i, full new i → (blk σ i).ok = true) (hx : x.res new) : (x.up ρ.length).wf (ρ ++ σ) := by
  cases x with
  | c x => exact Cl.up_wf (x := x) ho hx
  | agg xs => trivial
theorem SV.up_wf {σ : List Blk} {x : SV} {new : Heap} (ho : ∀ i, full new i → (blk σ i).ok = true) (hx : x.res new) : (x.up ρ.length).wf (ρ ++ σ) := by
  cases x with
  | v x => exact AV.up_wf (x := x) ho hx
  | tup xs =>
    intro q hq
    obtain ⟨q', hq', rfl⟩ := List.mem_map.1 hq
    exact AV.up_wf ho (hx q' hq')

theorem not_full_nil {i : Nat} : ¬ full [] i := by simp [full]
theorem Pt.res_nil {σ : List Blk} {G G' : List Addr} {q : Pt} (hq : q.res []) : q.conc ρ G = q.conc σ G' ∧ q.wf ρ := by
  cases q with
  | own i o => exact (not_full_nil hq).elim
  | giv j => exact hq.elim
  | abs a => exact ⟨rfl, trivial⟩
theorem AV.res_nil {σ : List Blk} {G G' : List Addr} {x : AV} (hx : x.res []) : x.conc ρ G = x.conc σ G' ∧ x.wf ρ := by
  cases x with
  | agg xs => exact ⟨rfl, trivial⟩
  | c y =>
    cases y with
    | p y => exact ⟨rfl, trivial⟩
    | ptr q => exact Pt.res_nil (q := q) hx
    | clo f caps =>
      refine ⟨?_, fun q hq => (Pt.res_nil (σ := σ) (G := G) (G' := G') (hx q hq)).2⟩
      simp only [AV.conc, Cl.conc]
      congr 2
      exact List.map_congr_left fun q hq => (Pt.res_nil (hx q hq)).1
    | row i o n z => exact (not_full_nil hx).elim
    | emp i o => exact (not_full_nil hx).elim
theorem res_zero_conc {σ : List Blk} {G G' : List Addr} {x : SV} (hx : x.res []) : x.conc ρ G = x.conc σ G' := by
  cases x with
  | v x => exact (AV.res_nil (x := x) hx).1
  | tup xs =>
    simp only [SV.conc]
    congr 2
    exact List.map_congr_left fun q hq => (AV.res_nil (hx q hq)).1
theorem res_wf {x : SV} (hx : x.res []) : x.wf ρ := by
  cases x with
  | v x => exact (AV.res_nil (σ := []) (G := []) (G' := []) (x := x) hx).2
  | tup xs => exact fun q hq => (AV.res_nil (σ := []) (G := []) (G' := []) (hx q hq)).2

/-- An operation that yields a value and leaves the world. -/
theorem wp_of_value {o : Oper} {a : Act} {next : Act → World → Prop} {Q : Exit → Act → World → Prop} {x : Value} {w' : World}
    (hr : (execOp a.eval o).run P w = .ok (.value x) w') (hn : next (a.put o.dst x) w') : o.wp P a w next Q := by
  unfold Oper.wp; rw [hr]; exact hn
theorem wp_of_skip {o : Oper} {a : Act} {next : Act → World → Prop} {Q : Exit → Act → World → Prop} {w' : World}
    (hr : (execOp a.eval o).run P w = .ok .skip w') (hn : next (a.put o.dst undef) w') : o.wp P a w next Q := by
  unfold Oper.wp; rw [hr]; exact hn

theorem intBin_ok {op : BinOp} {k : IntKind} {a b : Int} {r : PC} (hr : intBin op k a b = some r) (t : TypeId) (hs : isSh op = false) : (binOp op t (.int k a) (.int k b)).run P w = .ok r.conc w := by
  cases op <;> simp only [intBin] at hr <;>
    first
      | (simp [isSh] at hs; done)
      | (cases hr; done)
      | (obtain rfl := Option.some.inj hr; simp [binOp, Op.intArith, Op.intBits, Op.intCmp, PC.conc]; done)
      | (split at hr
         · cases hr
         · rename_i h0; obtain rfl := Option.some.inj hr; simp [binOp, Op.intDiv, h0, PC.conc])

theorem shBin_ok {op : BinOp} {k k' : IntKind} {a b : Int} {r : PC} (hr : shBin op k a b = some r) (t : TypeId) : (binOp op t (.int k a) (.int k' b)).run P w = .ok r.conc w := by
  cases op <;> simp only [shBin] at hr <;>
    first
      | (cases hr; done)
      | (split at hr
         · cases hr
         · rename_i h0; obtain rfl := Option.some.inj hr; simp [binOp, Op.shift, h0, PC.conc])

theorem eqGuard_int (op : BinOp) (t : TypeId) (x y : Operand) (k k' : IntKind) (a b : Int) : (eqGuard op t x y (.int k a) (.int k' b)).run P w = .ok () w := by
  unfold eqGuard
  by_cases hc : (!(op matches .eql | .neq)) = true <;> simp [hc]
theorem eqGuard_bool (op : BinOp) (t : TypeId) (x y : Operand) (a b : Bool) : (eqGuard op t x y (.bool a) (.bool b)).run P w = .ok () w := by
  unfold eqGuard
  by_cases hc : (!(op matches .eql | .neq)) = true <;> simp [hc]

theorem bin_ok {T : Tab} (hT : ∀ t d, T t = some d → TdOk P t d) {op : BinOp} {t : Nat} {a b : AV} {r : PC} (hr : bin T op t a b = some r) (G : List Addr) (x y : Operand) :
    (do eqGuard op t x y (a.conc ρ G) (b.conc ρ G); binOp op t (a.conc ρ G) (b.conc ρ G)).run P w = .ok r.conc w := by
  unfold bin at hr
  split at hr
  · rename_i k a k' b
    simp only [AV.conc, Cl.conc, PC.conc, Sem.run_bind, eqGuard_int, Result.andThen_ok]
    split at hr
    · exact shBin_ok hr t
    · rename_i hs
      split at hr
      · rename_i e; subst e
        exact intBin_ok hr t (by simpa using hs)
      · cases hr
  · rename_i a b
    simp only [AV.conc, Cl.conc, PC.conc, Sem.run_bind, eqGuard_bool, Result.andThen_ok]
    split at hr
    · rename_i d hd
      split at hr
      · rename_i hb
        have he := (hT t d hd).eqB hb
        cases op <;> simp at hr <;> subst hr <;> simp [binOp, he, PC.conc, bne]
      · cases hr
    · cases hr
  · rename_i a b
    have hg : (eqGuard op t x y (.string a) (.string b)).run P w = .ok () w := by
      unfold eqGuard
      by_cases hc : (!(op matches .eql | .neq)) = true <;> simp [hc]
    have hl : ∀ b : ByteArray, b.toList = b.data.toList := fun b => ByteArray.toList_eq b
    simp only [AV.conc, Cl.conc, PC.conc, Sem.run_bind, hg, Result.andThen_ok]
    have hm : IntKind.i64.max = 9223372036854775807 := by decide
    cases op <;> simp at hr
    · obtain ⟨h1, rfl⟩ := hr
      have h2 : ¬ (((a.size + b.size : Nat) : Int) > IntKind.i64.max) := by rw [hm]; omega
      simp only [binOp, Op.stringOp, if_neg h2, Sem.run_pure, PC.conc]
    · subst hr; simp [binOp, Op.stringOp, hl, PC.conc, Bool.beq_eq_decide_eq]
    · subst hr; simp [binOp, Op.stringOp, hl, PC.conc, Bool.beq_eq_decide_eq]
  · rename_i xs ys
    split at hr
    · rename_i d hd
      split at hr
      · cases hr
      · rename_i hk
        split at hr
        · rename_i l m hl hm
          have he := (hT t d hd).eq hk xs ys l m hl hm
          cases op <;> simp at hr <;> subst hr <;> simp [AV.conc, binOp, aggOf, (he w x y).1, (he w x y).2.1, (he w x y).2.2, PC.conc, bne] <;>
            first
              | (have := he w x y; simp only [aggOf] at this; simp [this.1, this.2.1, this.2.2, PC.conc, bne]; done)
              | skip
        · cases hr
    · cases hr
  · rename_i i o n z
    split at hr
    · rename_i d hd
      split at hr
      · rename_i hk
        obtain ⟨e, _, _, hu, _⟩ := (hT t d hd).row hk
        have hg : (eqGuard op t x y (.slice (some ⟨(blk ρ i).b, o, none⟩) n (((blk ρ i).k - o) / z)) (.slice none 0 0)).run P w = .ok () w := by
          unfold eqGuard
          by_cases hc : (!(op matches .eql | .neq)) = true <;> simp [hc]
        have he : (Op.equal t (.slice (some ⟨(blk ρ i).b, o, none⟩) n (((blk ρ i).k - o) / z)) (.slice none 0 0)).run P w = .ok false w := by
          unfold Op.equal
          rw [show Op.maxDepth = 9999 + 1 from rfl]
          unfold Op.equalIn
          simp [run_underlying hu]
        cases op <;> simp at hr <;> subst hr <;> simp [AV.conc, Cl.conc, PC.conc, binOp, Sem.run_bind, hg, he]
      · cases hr
    · cases hr
  · cases hr

theorem un_ok {op : UnOp} {x r : PC} (hr : un op x = some r) : (Op.unary op x.conc).run P w = .ok r.conc w := by
  cases op <;> cases x <;> simp [un] at hr <;> subst hr <;> simp [Op.unary, Op.intArith, Op.intBits, PC.conc]

theorem foldlM_ok {f : PC → PC → Option PC} {F : Value → Value → Sem Value} (hf : ∀ x y z, f x y = some z → (F x.conc y.conc).run P w = .ok z.conc w) :
    ∀ (l : List PC) (x r : PC), foldPC f x l = some r → ((l.map PC.conc).foldlM F x.conc).run P w = .ok r.conc w
  | [], x, r, hr => by simp [foldPC] at hr; subst hr; simp
  | y :: l, x, r, hr => by
    simp only [foldPC] at hr
    split at hr
    · rename_i z hz
      simp only [List.map_cons, List.foldlM_cons, Sem.run_bind, hf x y z hz, Result.andThen_ok]
      exact foldlM_ok hf l z r hr
    · cases hr

theorem allP_conc {args : List AV} {xs : List PC} (hx : allP args = some xs) (G : List Addr) : args.map (AV.conc ρ G) = xs.map PC.conc := by
  induction args generalizing xs with
  | nil => simp [allP] at hx; subst hx; rfl
  | cons a r ih =>
    cases a with
    | agg ys => simp [allP] at hx
    | c y =>
      cases y <;> simp [allP] at hx
      obtain ⟨l, hl, rfl⟩ := hx
      simp [ih hl, AV.conc, Cl.conc]

theorem argsA_ok {G : List Addr} {env : Env} {a : Act} (hE : ER ρ G env a.tmps) : ∀ {xs : List Operand} {l : List AV}, argsA env xs = some l → xs.map a.eval = l.map (AV.conc ρ G) ∧ ∀ y ∈ l, y.wf ρ
  | [], l, hl => by simp [argsA] at hl; subst hl; simp
  | x :: r, l, hl => by
    simp only [argsA] at hl
    split at hl
    · rename_i y l' hy hl'
      simp at hl; subst hl
      have h1 := hE.opdA hy
      have h2 := argsA_ok hE hl'
      refine ⟨by simp [h1.1, h2.1], ?_⟩
      intro z hz
      rcases List.mem_cons.1 hz with rfl | hz
      · exact h1.2
      · exact h2.2 z hz
    · cases hl

theorem partsP_ok {G : List Addr} {env : Env} {a : Act} (hE : ER ρ G env a.tmps) : ∀ {ps : List (Nat × Operand)} {l : List (Nat × PC)}, partsP env ps = some l → ps.map (fun (i, x) => (i, a.eval x)) = l.map (fun (i, c) => (i, c.conc))
  | [], l, hl => by simp [partsP] at hl; subst hl; simp
  | (i, x) :: r, l, hl => by
    simp only [partsP] at hl
    split at hl
    · rename_i y l' hy hl'
      simp at hl; subst hl
      simp [hE.opdP hy, partsP_ok hE hl']
    · cases hl

theorem fillP_ok {place : Nat → Option Nat} : ∀ {ps : List (Nat × PC)} {cells r : List PC}, fillP place cells ps = some r →
    Instr.fill (fun i => (place i).map (·, 1)) (cells.map PC.conc).toArray (ps.map fun (i, c) => (i, c.conc)) = some (r.map PC.conc).toArray
  | [], cells, r, hr => by simp [fillP] at hr; subst hr; simp [Instr.fill]
  | (i, c) :: ps, cells, r, hr => by
    simp only [fillP] at hr
    split at hr
    · rename_i o ho
      split at hr
      · rename_i hlt
        have ih := fillP_ok hr
        simp only [List.map_cons, Instr.fill, ho, Option.map_some, PC.cells_conc]
        rw [if_neg (by simp; omega)]
        rw [← ih]
        congr 1
        simp [Array.zipIdx, List.map_set]
      · cases hr
    · cases hr

theorem fold_set : ∀ (x : List Value) (k off : Nat) (cs : Array Value), off + k + x.length ≤ cs.size →
    (x.zipIdx k).foldl (fun cs (p : Value × Nat) => cs.setIfInBounds (off + p.2) p.1) cs = (cs.toList.take (off + k) ++ x ++ cs.toList.drop (off + k + x.length)).toArray
  | [], k, off, cs, _ => by simp
  | v :: x, k, off, cs, h => by
    simp only [List.length_cons] at h
    simp only [List.zipIdx_cons, List.foldl_cons]
    rw [fold_set x (k + 1) off _ (by simp; omega)]
    have e := list_seg_step cs.toList (off + k) v x (by simp at h ⊢; omega)
    simpa [Array.toList_setIfInBounds, Nat.add_assoc] using congrArg List.toArray e

/-- Parts as they stand in the machine. -/
inductive Parts : List (Nat × List PC) → List (Nat × Value) → Prop
  | nil : Parts [] []
  | cons {i : Nat} {x : List PC} {v : Value} {l : List (Nat × List PC)} {vs : List (Nat × Value)} (h : v.cells = (x.map PC.conc).toArray) (t : Parts l vs) : Parts ((i, x) :: l) ((i, v) :: vs)

theorem partsA_ok {G : List Addr} {env : Env} {a : Act} (hE : ER ρ G env a.tmps) : ∀ {ps : List (Nat × Operand)} {l : List (Nat × List PC)}, partsA env ps = some l → Parts l (ps.map fun (i, x) => (i, a.eval x))
  | [], l, hl => by simp [partsA] at hl; subst hl; exact .nil
  | (i, x) :: r, l, hl => by
    simp only [partsA] at hl
    split at hl
    · rename_i y l' hy hl'
      split at hl
      · rename_i c hc
        simp at hl; subst hl
        refine .cons ?_ (partsA_ok hE hl')
        rw [(hE.opdA hy).1]
        exact cellsOf_conc hc ρ G
      · cases hl
    · cases hl

theorem fillR_ok {z : Nat} : ∀ {l : List (Nat × List PC)} {vs : List (Nat × Value)} {cells r : List PC}, fillR z cells l = some r → Parts l vs →
    Instr.fill (fun i => some (i * z, z)) (cells.map PC.conc).toArray vs = some (r.map PC.conc).toArray
  | [], _, cells, r, hr, .nil => by simp [fillR] at hr; subst hr; simp [Instr.fill]
  | (i, x) :: l, (_, v) :: vs, cells, r, hr, .cons h2 ht => by
    simp only [fillR] at hr
    split at hr
    · rename_i hc
      have ih := fillR_ok hr ht
      simp only [Instr.fill]
      have hs : v.cells.size = z := by rw [h2]; simp [hc.1]
      rw [if_neg (by simp [hs]; omega)]
      rw [← ih]
      congr 1
      have hf := fold_set (x.map PC.conc) 0 (i * z) (cells.map PC.conc).toArray (by simp; omega)
      rw [h2]
      have : (x.map PC.conc).toArray.zipIdx.foldl (fun cs (p : Value × Nat) => cs.setIfInBounds (i * z + p.2) p.1) (cells.map PC.conc).toArray = ((x.map PC.conc).zipIdx 0).foldl (fun cs (p : Value × Nat) => cs.setIfInBounds (i * z + p.2) p.1) (cells.map PC.conc).toArray := by
        simp [← Array.foldl_toList]
      rw [show (fun (cs : Array Value) (x : Value × Nat) => match x with | (c, j) => cs.setIfInBounds (i * z + j) c) = fun cs (p : Value × Nat) => cs.setIfInBounds (i * z + p.2) p.1 from rfl, this, hf]
      simp [hc.1, List.map_take, List.map_drop]
    · cases hr

theorem fillR_len {z : Nat} : ∀ {l : List (Nat × List PC)} {cells r : List PC}, fillR z cells l = some r → r.length = cells.length
  | [], cells, r, hr => by simp [fillR] at hr; rw [hr]
  | (i, x) :: l, cells, r, hr => by
    simp only [fillR] at hr
    split at hr
    · rename_i hc
      rw [fillR_len hr]
      simp [hc.1]; omega
    · cases hr

theorem range_zero {z : List PC} (hz : 0 < z.length) : ∀ n, (Array.range (n * z.length)).map (fun x => ((z.map PC.conc).toArray)[x % ((z.map PC.conc).toArray).size]!) = (((List.replicate n z).flatten).map PC.conc).toArray := by
  intro n
  apply Array.ext'
  simp only [Array.toList_map, Array.toList_range, List.size_toArray, List.length_map]
  apply List.ext_getElem?
  intro j
  have hl : ((List.replicate n z).flatten).length = n * z.length := by simp
  by_cases hj : j < n * z.length
  · have hm : j % z.length < z.length := Nat.mod_lt _ hz
    have h1 : (List.replicate n z).flatten[j]? = z[j % z.length]? := by
      clear hl
      induction n generalizing j with
      | zero => simp at hj
      | succ n ih =>
        rw [List.replicate_succ, List.flatten_cons]
        by_cases hjz : j < z.length
        · rw [List.getElem?_append_left hjz, Nat.mod_eq_of_lt hjz]
        · rw [List.getElem?_append_right (by omega), ih (j - z.length) (by rw [Nat.succ_mul] at hj; omega) (Nat.mod_lt _ hz)]
          congr 1
          rw [← Nat.mod_eq_sub_mod (by omega)]
    rw [List.getElem?_map, List.getElem?_map, List.getElem?_range hj, h1]
    simp [hm]
  · rw [List.getElem?_eq_none (by simp; omega), List.getElem?_eq_none (by simp [hl]; omega)]

end
end Go.Proofs.YtcnapkdccjibpaaGreatDoor.Eng
