/- What the evaluator says of one operation holds of the model's run: the theorem. -/
import Derived.Test.YtnkdmdjnnbkfgaaGreatEng4
namespace Go.Proofs.YtnkdmdjnnbkfgaaGreat.Eng
open Go Go.RowKit
set_option linter.unusedVariables false
set_option linter.unusedSimpArgs false

section
variable {P : Program} {w0 : World}

/-- What holds behind an operation: the boxes told, the value told. -/
def Behind (w0 : World) (ρ : List Nat) (G : List Addr) (h' : Heap) (v : Option SV) (σ : List Nat) (x : Value) (w' : World) : Prop :=
  HR w0 (ρ ++ σ) h' w' ∧ ∀ s, v = some s → x = s.conc (ρ ++ σ) G ∧ s.wf (ρ ++ σ).length

theorem Behind.same {w : World} {ρ : List Nat} {h : Heap} {G : List Addr} (H : HR w0 ρ h w) {s : SV} {x : Value} (hx : x = s.conc ρ G) (hw : s.wf ρ.length) : Behind w0 ρ G h (some s) [] x w :=
  ⟨by simpa using H, fun s' e => by obtain rfl := Option.some.inj e; simpa using ⟨hx, hw⟩⟩

theorem ptr_new {ρ : List Nat} {h : Heap} {G : List Addr} {b : Nat} (hl : ρ.length = h.length) :
    (.pointer (some ⟨b, 0, none⟩) : Value) = SV.conc (ρ ++ [b]) G (.v (.c (.ptr (.own h.length 0)))) ∧ SV.wf (ρ ++ [b]).length (.v (.c (.ptr (.own h.length 0)))) := by
  constructor
  · simp only [SV.conc, AV.conc, Cl.conc, Pt.conc, Pt.addr]
    rw [← hl]
    simp [List.getD]
  · show h.length < (ρ ++ [b]).length
    simp [hl]

theorem map_toList' {α β : Type} (f : α → β) (x : Array α) : (x.toList.map f).toArray = x.map f := by
  apply Array.ext'; simp

theorem fill_congr {p q : Nat → Option (Nat × Nat)} (h : ∀ i, p i = q i) (cells : Array Value) (l : List (Nat × Value)) : Instr.fill p cells l = Instr.fill q cells l := by
  rw [funext h]

theorem ptrsOf_ok {l : List AV} {qs : List Pt} (h : ptrsOf l = some qs) (ρ : List Nat) (G : List Addr) :
    l.map (AV.conc ρ G) = qs.map (Pt.conc ρ G) ∧ ∀ n, (∀ y ∈ l, y.wf n) → ∀ q ∈ qs, q.wf n := by
  induction l generalizing qs with
  | nil => simp [ptrsOf] at h; subst h; simp
  | cons a r ih =>
    cases a with
    | agg xs => simp [ptrsOf] at h
    | c x =>
      cases x <;> simp only [ptrsOf] at h <;> try (cases h; done)
      split at h
      · rename_i l' hl
        simp at h; subst h
        obtain ⟨h1, h2⟩ := ih hl
        refine ⟨by simp only [List.map_cons, h1, AV.conc, Cl.conc], fun n hn q hq => ?_⟩
        rcases List.mem_cons.1 hq with rfl | hq
        · exact hn _ (List.mem_cons_self ..)
        · exact h2 n (fun y hy => hn y (List.mem_cons_of_mem _ hy)) q hq
      · cases h

set_option maxHeartbeats 1000000 in
theorem doOp_wp {T : Tab} {O : Orc} {G : List Addr} {g : List PC} (hT : ∀ t d, T t = some d → TdOk P t d) (hO : Sound P O) (hG : GR G g w0)
    {ρ : List Nat} {env : Env} {h h' : Heap} {a : Act} {w : World} (hE : ER ρ G env a.tmps) (H : HR w0 ρ h w) {o : Oper} {v : Option SV}
    (hd : doOp T O g env h o.op = some (v, h')) {next : Act → World → Prop} {Q : Exit → Act → World → Prop}
    (hn : ∀ σ x w', Behind w0 ρ G h' v σ x w' → next (a.put o.dst x) w') : o.wp P a w next Q := by
  cases hop : o.op <;> simp only [hop, doOp] at hd <;> try (cases hd; done)
  case move x =>
    split at hd
    · rename_i s hs
      simp at hd; obtain ⟨rfl, rfl⟩ := hd
      have h1 := hE.opd hs
      exact wp_of_value (x := a.eval x) (by simp [execOp, hop]) (hn [] _ w (Behind.same H h1.1 h1.2))
    · cases hd
  case assign x =>
    split at hd
    · rename_i s hs
      simp at hd; obtain ⟨rfl, rfl⟩ := hd
      have h1 := hE.opd hs
      exact wp_of_value (x := a.eval x) (by simp [execOp, hop]) (hn [] _ w (Behind.same H h1.1 h1.2))
    · cases hd
  case pick c x y =>
    split at hd
    · rename_i t ht
      have hc := hE.opdP ht
      split at hd
      · rename_i s hs
        simp at hd; obtain ⟨rfl, rfl⟩ := hd
        cases t
        · have h1 := hE.opd (x := y) (by simpa using hs)
          exact wp_of_value (x := a.eval y) (by simp [execOp, hop, hc, PC.conc, asBool]) (hn [] _ w (Behind.same H h1.1 h1.2))
        · have h1 := hE.opd (x := x) (by simpa using hs)
          exact wp_of_value (x := a.eval x) (by simp [execOp, hop, hc, PC.conc, asBool]) (hn [] _ w (Behind.same H h1.1 h1.2))
      · cases hd
    · cases hd
  case alloc t =>
    split at hd
    · rename_i d hT'
      split at hd
      · rename_i hz0
        simp at hd; obtain ⟨rfl, rfl⟩ := hd
        have hd' := hT t d hT'
        have hz := hd'.zero hz0 w
        have hcells : (if d.agg then aggOf d.zero else (d.zero.getD 0 (.bool false)).conc).cells = (d.zero.map PC.conc).toArray := by
          cases ha : d.agg with
          | true => simp [aggOf, Value.cells]
          | false =>
            have h1 := hd'.one hz0 ha
            match hz : d.zero, h1 with
            | [c], _ => simp [PC.cells_conc]
        refine wp_of_value (x := .pointer (some ⟨w.heap.size, 0, none⟩)) (w' := w.alloc (.cells (d.zero.map PC.conc).toArray t)) ?_ (hn [w.heap.size] _ _ ⟨H.push d.zero t, ?_⟩)
        · simp only [execOp, hop, Instr.alloc, Sem.run_bind, hz, Result.andThen_ok, newVar, newRow, hcells, run_newObj, Sem.run_pure]
          rfl
        · intro s e
          obtain rfl := Option.some.inj e
          exact ptr_new H.len
      · cases hd
    · cases hd
  case box t x =>
    split at hd
    · rename_i b hb
      split at hd
      · rename_i cs hcs
        simp at hd; obtain ⟨rfl, rfl⟩ := hd
        have h1 := hE.opdA hb
        have hc := cellsOf_conc hcs ρ G
        refine wp_of_value (x := .pointer (some ⟨w.heap.size, 0, none⟩)) (w' := w.alloc (.cells (cs.map PC.conc).toArray t)) ?_ (hn [w.heap.size] _ _ ⟨H.push cs t, ?_⟩)
        · simp only [execOp, hop, Instr.box, Sem.run_bind, h1.1, newVar, newRow, hc, run_newObj, Sem.run_pure, Result.andThen_ok]
          rfl
        · intro s e
          obtain rfl := Option.some.inj e
          exact ptr_new H.len
      · cases hd
    · cases hd
  case load t x =>
    split at hd
    · rename_i i q d hx hTd
      have h1 := hE.opdA hx
      have hd' := hT t d hTd
      split at hd
      · rename_i cs hcs
        obtain ⟨e, he⟩ := H.cell i cs hcs
        split at hd
        · rename_i hagg
          split at hd
          · rename_i hle
            simp at hd; obtain ⟨rfl, rfl⟩ := hd
            have hl := run_loadCells_list (P := P) w ⟨ρ.getD i 0, q, none⟩ (((cs.drop q).take d.size).map PC.conc) (fun j v hv => by
              have hadd : (⟨ρ.getD i 0, q, none⟩ : Addr).add j = ⟨ρ.getD i 0, q + j, none⟩ := by unfold Addr.add; split <;> simp_all
              rw [hadd]
              simp only [World.cell?, he]
              simp only [List.getElem?_map, Option.map_eq_some_iff] at hv
              obtain ⟨c, hc, rfl⟩ := hv
              rw [List.getElem?_take] at hc
              split at hc
              · rw [List.getElem?_drop] at hc
                simp [hc]
              · cases hc)
            have hlen : (((cs.drop q).take d.size).map PC.conc).length = d.size := by simp; omega
            rw [hlen] at hl
            refine wp_of_value (x := aggOf ((cs.drop q).take d.size)) ?_ (hn [] _ w (Behind.same H rfl trivial))
            simp only [execOp, hop, h1.1, AV.conc, Cl.conc, Pt.conc, Pt.addr, Instr.loadAt, Instr.sureAddr, loadVar, Sem.run_bind, Sem.run_pure, Result.andThen_ok, hd'.isAgg, hagg, if_true, hd'.sizeOf, hl, aggOf]
          · cases hd
        · rename_i hagg
          split at hd
          · rename_i c hc
            simp at hd; obtain ⟨rfl, rfl⟩ := hd
            have hcell := own_cell H hcs hc
            refine wp_of_value (x := c.conc) ?_ (hn [] _ w (Behind.same H rfl trivial))
            simp only [execOp, hop, h1.1, AV.conc, Cl.conc, Pt.conc, Pt.addr, Instr.loadAt, Instr.sureAddr, loadVar, Sem.run_bind, Sem.run_pure, Result.andThen_ok, hd'.isAgg, hagg, if_false, run_load, hcell, Bool.false_eq_true]
          · cases hd
      · cases hd
    · rename_i j d hx hTd
      have h1 := hE.opdA hx
      have hd' := hT t d hTd
      split at hd
      · cases hd
      · rename_i hagg
        split at hd
        · rename_i c hc
          simp at hd; obtain ⟨rfl, rfl⟩ := hd
          have hcell := ((hG.later H.below).cell j c hc).1
          refine wp_of_value (x := c.conc) ?_ (hn [] _ w (Behind.same H rfl trivial))
          simp only [execOp, hop, h1.1, AV.conc, Cl.conc, Pt.conc, Pt.addr, Instr.loadAt, Instr.sureAddr, loadVar, Sem.run_bind, Sem.run_pure, Result.andThen_ok, hd'.isAgg, hagg, if_false, run_load, hcell, Bool.false_eq_true]
        · cases hd
    · cases hd
  case store t x y =>
    split at hd
    · rename_i i q b d hx hy hTd
      have h1 := hE.opdA hx
      have h2 := hE.opdA hy
      have hd' := hT t d hTd
      split at hd
      · rename_i cs new hcs hnew
        split at hd
        · rename_i hle
          simp at hd; obtain ⟨rfl, rfl⟩ := hd
          obtain ⟨e, he⟩ := H.cell i cs hcs
          have hc := cellsOf_conc hnew ρ G
          have hst := run_storeCells_at (P := P) (ρ.getD i 0) q e (new.map PC.conc) 0 (cs.map PC.conc).toArray w he (by simp; omega) (by
            intro v hv
            obtain ⟨c, _, rfl⟩ := List.mem_map.1 hv
            exact c.oneCell)
          have hsp : ((cs.map PC.conc).toArray.toList.take (q + 0) ++ new.map PC.conc ++ (cs.map PC.conc).toArray.toList.drop (q + 0 + (new.map PC.conc).length)).toArray = ((splice cs q new).map PC.conc).toArray := by
            simp [splice, List.map_append, List.map_take, List.map_drop]
          rw [hsp] at hst
          refine wp_of_skip (w' := w.setRow (ρ.getD i 0) ((splice cs q new).map PC.conc).toArray) ?_ (hn [] _ _ ⟨by simpa using H.set hcs, fun s hs => by cases hs⟩)
          have h1' : a.eval x = .pointer (some ⟨ρ.getD i 0, q, none⟩) := h1.1
          have hsz : (AV.conc ρ G b).cells.size = d.size := by rw [hc]; simp [hle.1]
          have hst' : (storeCells ⟨ρ.getD i 0, q, none⟩ (AV.conc ρ G b).cells.toList).run P w = .ok () (w.setRow (ρ.getD i 0) ((splice cs q new).map PC.conc).toArray) := by
            rw [hc]; exact hst
          simp only [execOp, hop, h1', h2.1, Instr.storeAt, Instr.sureAddr, storeVar, Sem.run_bind, Sem.run_pure, Result.andThen_ok, hd'.sizeOf, hsz, ne_eq, not_true_eq_false, if_false, hst']
        · cases hd
      · cases hd
    · cases hd
  case binOp op t x y ty =>
    split at hd
    · rename_i b c hb hc
      split at hd
      · rename_i r hr
        simp at hd; obtain ⟨rfl, rfl⟩ := hd
        have h1 := hE.opdA hb
        have h2 := hE.opdA hc
        have hbin := bin_ok (w := w) (ρ := ρ) hT hr G x y
        refine wp_of_value (x := r.conc) ?_ (hn [] _ w (Behind.same H rfl trivial))
        simp only [Sem.run_bind] at hbin
        simp only [execOp, hop, h1.1, h2.1, Sem.run_bind, hbin, Result.andThen_ok, Sem.run_pure]
      · cases hd
    · cases hd
  case unOp op t x =>
    split at hd
    · rename_i b hb
      split at hd
      · rename_i r hr
        simp at hd; obtain ⟨rfl, rfl⟩ := hd
        have h1 := hE.opdP hb
        refine wp_of_value (x := r.conc) ?_ (hn [] _ w (Behind.same H rfl trivial))
        simp only [execOp, hop, h1, Sem.run_bind, un_ok hr, Result.andThen_ok, Sem.run_pure]
      · cases hd
    · cases hd
  case convert u t x =>
    split at hd
    · rename_i k' n du d hx hTu hTd
      split at hd
      · rename_i k hk
        simp at hd; obtain ⟨rfl, rfl⟩ := hd
        have h1 := hE.opdP hx
        obtain ⟨uu, huu⟩ := (hT u du hTu).und
        have hcv := (hT t d hTd).conv k hk u uu huu k' n w
        refine wp_of_value (x := .int k (k.wrap n)) ?_ (hn [] _ w (Behind.same H rfl trivial))
        simp only [execOp, hop, h1, PC.conc, Sem.run_bind, hcv, Result.andThen_ok, Sem.run_pure]
      · cases hd
    · cases hd
  case makeFunc fn first caps =>
    split at hd
    · rename_i f
      split at hd
      · rename_i hf
        split at hd
        · rename_i l hl
          have h1 := argsA_ok hE hl
          have hfirst : first = #[] := Array.eq_empty_of_size_eq_zero hf
          have hrun : (execOp a.eval o).run P w = .ok (.value (.func (.func f) #[] (l.map (AV.conc ρ G)).toArray)) w := by
            simp only [execOp, hop, Instr.makeFunc, Sem.run_bind, Sem.run_pure, Result.andThen_ok, hfirst]
            rw [← h1.1, map_toList']
            simp
          split at hd
          · rename_i hq
            simp at hd; obtain ⟨rfl, rfl⟩ := hd
            have h2 := ptrsOf_ok hq ρ G
            refine wp_of_value hrun (hn [] _ w (Behind.same H ?_ trivial))
            rw [h2.1]; rfl
          · rename_i qs _ hq
            simp at hd; obtain ⟨rfl, rfl⟩ := hd
            have h2 := ptrsOf_ok hq ρ G
            refine wp_of_value hrun (hn [] _ w (Behind.same H ?_ (h2.2 _ h1.2)))
            rw [h2.1]; rfl
          · cases hd
        · cases hd
      · cases hd
    · cases hd
  case fieldAddr t x f =>
    split at hd
    · rename_i i q d hx hTd
      split at hd
      · rename_i off hoff
        simp at hd; obtain ⟨rfl, rfl⟩ := hd
        have h1 := hE.opdA hx
        have hf := (hT t d hTd).field f off hoff (ρ.getD i 0) q w
        refine wp_of_value (x := .pointer (some ⟨ρ.getD i 0, q + off, none⟩)) ?_ (hn [] _ w (Behind.same H rfl h1.2))
        simp only [execOp, hop, h1.1, AV.conc, Cl.conc, Pt.conc, Pt.addr, Sem.run_bind, hf, Result.andThen_ok, Sem.run_pure]
      · cases hd
    · cases hd
  case field t x f =>
    split at hd
    · rename_i xs d hx hTd
      split at hd
      · rename_i c hc
        simp at hd; obtain ⟨rfl, rfl⟩ := hd
        simp only [Option.bind_eq_some_iff] at hc
        obtain ⟨q, hq, hxq⟩ := hc
        have h1 := hE.opdA hx
        have hf := (hT t d hTd).fieldV f q hq (xs.map PC.conc).toArray c.conc w (by simp [hxq])
        refine wp_of_value (x := c.conc) ?_ (hn [] _ w (Behind.same H rfl trivial))
        have h1' : a.eval x = .agg (xs.map PC.conc).toArray := h1.1
        simp only [execOp, hop, h1', Sem.run_bind, hf, Result.andThen_ok, Sem.run_pure]
      · cases hd
    · cases hd
  case indexAddr t x ix =>
    split at hd
    · rename_i i n k j d hx hix hTd
      split at hd
      · rename_i hc
        simp at hd; obtain ⟨rfl, rfl⟩ := hd
        have h1 := hE.opdA hx
        have h2 := hE.opdP hix
        have hf := (hT t d hTd).indexAt hc.1 (by simpa using hc.2.1) (ρ.getD i 0) n n k j w hc.2.2.1 hc.2.2.2
        refine wp_of_value (x := .pointer (some ⟨ρ.getD i 0, j.toNat, none⟩)) ?_ (hn [] _ w (Behind.same H rfl h1.2))
        have h1' : a.eval x = .slice (some ⟨ρ.getD i 0, 0, none⟩) n n := h1.1
        simp only [execOp, hop, h1', h2, PC.conc, Sem.run_bind, hf, Result.andThen_ok, Sem.run_pure]
      · cases hd
    · cases hd
  case index t x ix =>
    split at hd
    · rename_i xs k j d hx hix hTd
      split at hd
      · rename_i hc
        split at hd
        · rename_i c hcj
          simp at hd; obtain ⟨rfl, rfl⟩ := hd
          have h1 := hE.opdA hx
          have h2 := hE.opdP hix
          have hf := (hT t d hTd).index hc.1 hc.2.1 (xs.map PC.conc).toArray k j c.conc w hc.2.2.1 hc.2.2.2 (by simp [hcj])
          refine wp_of_value (x := c.conc) ?_ (hn [] _ w (Behind.same H rfl trivial))
          have h1' : a.eval x = .agg (xs.map PC.conc).toArray := h1.1
          simp only [execOp, hop, h1', h2, PC.conc, Sem.run_bind, hf, Result.andThen_ok, Sem.run_pure]
        · cases hd
      · cases hd
    · rename_i s k j d hx hix hTd
      split at hd
      · rename_i hc
        split at hd
        · rename_i b hb
          simp at hd; obtain ⟨rfl, rfl⟩ := hd
          have h1 := hE.opdA hx
          have h2 := hE.opdP hix
          have hu := run_underlying ((hT t d hTd).str hc.1) w
          refine wp_of_value (x := .int .u8 b.toNat) ?_ (hn [] _ w (Behind.same H rfl trivial))
          have h1' : a.eval x = .string s := h1.1
          simp only [execOp, hop, h1', h2, PC.conc, Instr.index, asIntOf, Sem.run_bind, hu, Result.andThen_ok, Sem.run_pure, hc.2, if_true, hb]
        · cases hd
      · cases hd
    · cases hd
  case build t parts =>
    split at hd
    · rename_i d ps hTd hps
      split at hd
      · rename_i hagg
        split at hd
        · rename_i cs hcs
          simp at hd; obtain ⟨rfl, rfl⟩ := hd
          have hp := partsP_ok hE hps
          have hf := fillP_ok hcs
          have hb := (hT t d hTd).build hagg.1 hagg.2 (parts.map fun (i, x) => (i, a.eval x)) (cs.map PC.conc).toArray w (by
            rw [Array.toList_map, hp]
            rw [← hf]
            apply fill_congr
            intro i
            cases d.cells <;> simp)
          refine wp_of_value (x := aggOf cs) ?_ (hn [] _ w (Behind.same H rfl trivial))
          simp only [execOp, hop, Sem.run_bind, hb, Result.andThen_ok, Sem.run_pure, aggOf]
        · cases hd
      · cases hd
    · cases hd
  case buildSlice t n parts =>
    split at hd
    · rename_i d ps hTd hps
      split at hd
      · rename_i hc
        split at hd
        · rename_i cs hcs
          simp at hd; obtain ⟨rfl, rfl⟩ := hd
          have hp := partsP_ok hE hps
          have hf := fillP_ok hcs
          obtain ⟨e, hb⟩ := (hT t d hTd).buildSlice hc.1 (by simpa using hc.2.1) n (parts.map fun (i, x) => (i, a.eval x)) (cs.map PC.conc).toArray w hc.2.2.1 hc.2.2.2 (by
            rw [Array.toList_map, hp]
            rw [← hf]
            rw [fill_congr (q := fun i => Option.map (·, 1) (some i)) (fun i => rfl)]
            congr 1
            simp)
          refine wp_of_value (x := .slice (some ⟨w.heap.size, 0, none⟩) n n) (w' := w.alloc (.cells (cs.map PC.conc).toArray e)) ?_ (hn [w.heap.size] _ _ ⟨H.push cs e, ?_⟩)
          · simp only [execOp, hop, Sem.run_bind, hb, Result.andThen_ok, Sem.run_pure]
          · intro s es
            obtain rfl := Option.some.inj es
            constructor
            · simp only [SV.conc, AV.conc, Cl.conc]
              rw [← H.len]
              simp [List.getD]
            · show h.length < (ρ ++ [w.heap.size]).length
              simp [H.len]
        · cases hd
      · cases hd
    · cases hd
  case extract x j =>
    split at hd
    · rename_i xs hx
      split at hd
      · rename_i b hb
        simp at hd; obtain ⟨rfl, rfl⟩ := hd
        have h1 := hE.opd hx
        refine wp_of_value (x := b.conc ρ G) ?_ (hn [] _ w (Behind.same H rfl (h1.2 b (List.mem_of_getElem? hb))))
        have h1' : a.eval x = .tuple (xs.map (AV.conc ρ G)).toArray := h1.1
        simp [execOp, hop, h1', Instr.extract, hb]
      · cases hd
    · cases hd
  case call c =>
    split at hd
    · rename_i f hf
      split at hd
      · rename_i fa hfa
        split at hd
        · rename_i k caps args hk hargs
          split at hd
          · rename_i r h2 hcall
            simp at hd; obtain ⟨rfl, rfl⟩ := hd
            have hv := hE.opdA hfa
            have ha := argsA_ok hE hargs
            -- the function value
            have hfv : a.eval f = .func (.func k) #[] (caps.map (Pt.conc ρ G)).toArray := by
              rw [hv.1]
              unfold callee at hk
              split at hk
              · simp at hk; obtain ⟨rfl, rfl⟩ := hk; rfl
              · simp at hk; obtain ⟨rfl, rfl⟩ := hk; rfl
              · cases hk
            unfold callF at hcall
            split at hcall
            · rename_i l g' htr
              obtain ⟨B, hB1, hB2, hB3, hB4⟩ := trArgs_ok H hG _ [] [] l g' htr rfl ⟨fun j c hj => by simp at hj⟩
              have hB1' := hB1 []
              simp only [List.append_nil, List.nil_append] at hB1' hB2 hB3
              have hargs' : (args.map (AV.conc ρ G)).toArray ++ (caps.map (Pt.conc ρ G)).toArray = (l.map (AV.conc [] B)).toArray := by
                rw [hB1', List.map_append]
                simp [Function.comp_def, AV.conc, Cl.conc]
              have hrun : (execOp a.eval o).run P w = (callFunc k (l.map (AV.conc [] B)).toArray).run P w := by
                simp only [execOp, hop, resolve, hf, Deferred.ofValue, hfv, Sem.run_bind, Sem.run_pure, Result.andThen_ok, invoke]
                rw [← hargs', ← ha.1, map_toList' a.eval c.args, Array.empty_append]
              split at hcall
              · rename_i pre r0 new hO1
                split at hcall
                · rename_i hpre
                  rcases hO k l g' _ hO1 with hFn | hExt
                  rotate_left
                  · obtain ⟨rfl, hres, hcal⟩ := hExt l g' pre r0 new hO1 hpre B w hB3
                    simp [grow] at hcall; obtain ⟨rfl, rfl⟩ := hcall
                    refine wp_of_value (x := r0.conc [] B) (w' := w) (by rw [hrun, hcal]) (hn [] _ w ⟨by simpa using H, fun s es => ?_⟩)
                    obtain rfl := Option.some.inj es
                    exact ⟨res_zero_conc hres, res_wf hres⟩
                  have finish : (∀ σ w', HR w σ new w' → r0.res new.length → next (a.put o.dst (r0.conc σ B)) w') → o.wp P a w next Q := by
                    intro hK
                    unfold Oper.wp
                    rw [hrun, hFn.enters]
                    refine (hFn.calls l g' pre r0 new hO1 hpre hB4 B w hB3).mono ?_
                    rintro e w' ⟨σ, rfl, hHR, hres⟩
                    exact hK σ w' hHR hres
                  cases new with
                  | nil =>
                    simp [grow] at hcall; obtain ⟨rfl, rfl⟩ := hcall
                    refine finish fun σ w' K hres => ?_
                    have hσ : σ = [] := List.eq_nil_of_length_eq_zero (by rw [K.len]; rfl)
                    subst hσ
                    refine hn [] _ w' ⟨by simpa using HR.called H K, fun s es => ?_⟩
                    obtain rfl := Option.some.inj es
                    exact ⟨res_zero_conc hres, res_wf hres⟩
                  | cons b bs =>
                    simp [grow] at hcall; obtain ⟨rfl, rfl⟩ := hcall
                    refine finish fun σ w' K hres => ?_
                    refine hn σ _ w' ⟨HR.called H K, fun s es => ?_⟩
                    obtain rfl := Option.some.inj es
                    rw [← H.len]
                    rw [← K.len] at hres
                    exact ⟨(SV.up_conc hres).symm, by rw [List.length_append]; exact SV.up_wf hres⟩
                · cases hcall
              · cases hcall
            · cases hcall
          · cases hd
        · cases hd
      · cases hd
    · rename_i b hb
      split at hd
      · rename_i args hargs
        split at hd
        · rename_i r hr
          simp at hd; obtain ⟨rfl, rfl⟩ := hd
          have ha := argsA_ok hE hargs
          refine wp_of_value (x := r.conc) ?_ (hn [] _ w (Behind.same H rfl trivial))
          unfold builtinF at hr
          have hmap : ∀ (x : PC) (xs : List PC), allP args = some (x :: xs) → (c.args.map a.eval).toList = x.conc :: xs.map PC.conc := by
            intro x xs hx
            rw [Array.toList_map, ha.1, allP_conc hx]
            rfl
          split at hr
          · rename_i x xs hx
            have := foldlM_ok (w := w) (P := P) (F := Builtin.max2) (fun x y z hz => by
              cases x <;> cases y <;> simp [max2] at hz
              subst hz
              simp [Builtin.max2, PC.conc]) xs x r hr
            simp only [execOp, hop, resolve, hb, Sem.run_bind, Sem.run_pure, Result.andThen_ok, invoke, builtin, Builtin.max_, hmap x xs hx, this]
          · rename_i x xs hx
            have := foldlM_ok (w := w) (P := P) (F := Builtin.min2) (fun x y z hz => by
              cases x <;> cases y <;> simp [min2] at hz
              subst hz
              simp [Builtin.min2, PC.conc]) xs x r hr
            simp only [execOp, hop, resolve, hb, Sem.run_bind, Sem.run_pure, Result.andThen_ok, invoke, builtin, Builtin.min_, hmap x xs hx, this]
          · cases hr
        · cases hd
      · cases hd
    · cases hd
end
end Go.Proofs.YtnkdmdjnnbkfgaaGreat.Eng
