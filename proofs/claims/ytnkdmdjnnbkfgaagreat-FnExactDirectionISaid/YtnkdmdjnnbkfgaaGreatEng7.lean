/- A region that draws its order: whatever order, what the evaluator says holds. -/
import Derived.Test.YtnkdmdjnnbkfgaaGreatEng6
namespace Go.Proofs.YtnkdmdjnnbkfgaaGreat.Eng
open Go Go.RowKit
set_option linter.unusedVariables false
set_option linter.unusedSimpArgs false

theorem doOp_len {T : Tab} {O : Orc} {g : List PC} {env : Env} {h h' : Heap} {op : Op} {v : Option SV} (hs : isStore op = false) (hd : doOp T O g env h op = some (v, h')) :
    ∃ n, h' = h ++ n := by
  cases op <;> simp only [doOp] at hd <;> try (cases hd; done)
  case alloc t =>
    split at hd
    · split at hd <;> simp at hd; exact ⟨_, hd.2.symm⟩
    · cases hd
  case box t x =>
    split at hd
    · split at hd <;> simp at hd; exact ⟨_, hd.2.symm⟩
    · cases hd
  case store t x y => simp [isStore] at hs
  case buildSlice t k parts =>
    split at hd
    · split at hd
      · split at hd <;> simp at hd; exact ⟨_, hd.2.symm⟩
      · cases hd
    · cases hd
  case call c =>
    split at hd
    · split at hd
      · split at hd
        · split at hd
          · rename_i r h2 hc
            simp at hd; obtain ⟨rfl, rfl⟩ := hd
            unfold callF at hc
            split at hc
            · split at hc
              · rename_i pre r' new hO1
                split at hc
                · cases new with
                  | nil => simp [grow] at hc; exact ⟨[], by simp [hc.2]⟩
                  | cons b bs => simp [grow] at hc; exact ⟨_, hc.2.symm⟩
                · cases hc
              · cases hc
            · cases hc
          · cases hd
        · cases hd
      · cases hd
    · split at hd
      · split at hd <;> simp at hd; exact ⟨[], by simp [hd.2]⟩
      · cases hd
    · cases hd
  all_goals
    refine ⟨[], ?_⟩
    rw [List.append_nil]
    (repeat' split at hd) <;> first | (cases hd; done) | (simp at hd; exact hd.2.symm)

section
variable {T : Tab} {O : Orc} {g : List PC} {all : Array Oper} {env0 : Env} {h0 : Heap} {vals : Vals}

/-- What is told of operation j. -/
def Sp (T : Tab) (O : Orc) (g : List PC) (all : Array Oper) (env0 : Env) (h0 : Heap) (vals : Vals) (W : WS) (L : Lds) (j : Nat) (o : Oper) : Prop :=
  ∃ v ws pre, W = pre ++ ws ∧ vals[j]? = some (o.dst.map (·, v)) ∧ o.guard = none ∧ (∀ e ∈ o.after, Region.binds .any e = true → e.on < j) ∧ okN o (ldOf (envD all.toList env0 vals o) o.op) ws = true ∧ (∀ x ∈ ws, x.1 < j) ∧
    ((isStore o.op = false ∧ (∀ x ∈ pre, j < x.1) ∧ ldAt L j = ldOf (envD all.toList env0 vals o) o.op ∧ doOp T O g (envD all.toList env0 vals o) (heapN h0 o ws) o.op = some (v, heapN h0 o ws)) ∨
     (waitsHead o ws = true ∧ ∃ pre' st h', pre = pre' ++ [(j, st, h')] ∧ (∀ x ∈ pre', j < x.1) ∧ doOp T O g (envD all.toList env0 vals o) (heapN h0 o ws) o.op = some (v, h')))

/-- What does not store adds boxes; a store leaves the other boxes. -/
def Chain (h0 : Heap) : WS → Prop
  | [] => True
  | (_, st, h1) :: r => (match st with
    | none => ∃ n, h1 = headH h0 r ++ n
    | some b => ∀ i, i ≠ b → h1[i]? = (headH h0 r)[i]?) ∧ Chain h0 r

/-- A store waits for all that stands ahead of it, but for that to which it does not matter and for what is in the chain. -/
def Late (all : Array Oper) (L : Lds) (W : WS) (V : WS) : Prop := ∀ x ∈ V, ∀ b, x.2.1 = some b → ∃ o', all[x.1]? = some o' ∧ ∀ i, i < x.1 → waitsFor o' i = true ∨ pureAt all.toList i = true ∨ isW i W = true ∨ otherB b (ldAt L i) = true

theorem pureAt_get : ∀ {l : List Oper} {i : Nat}, pureAt l i = true → ∃ o, l[i]? = some o ∧ isPure o.op = true
  | [], i, h => by cases h
  | o :: r, 0, h => ⟨o, rfl, h⟩
  | o :: r, i + 1, h => by
    obtain ⟨o', h1, h2⟩ := pureAt_get (l := r) (i := i) h
    exact ⟨o', by simpa using h1, h2⟩
theorem doOp_pure {env : Env} {h h1 : Heap} {op : Op} {v : Option SV} (hp : isPure op = true) (hd : doOp T O g env h op = some (v, h1)) : h1 = h ∧ ∀ h', doOp T O g env h' op = some (v, h') := by
  cases op <;> simp only [isPure] at hp <;> first | (cases hp; done) | skip
  all_goals
    simp only [doOp] at hd ⊢
    (repeat' split at hd) <;> first | (cases hd; done) | (simp at hd; obtain ⟨rfl, rfl⟩ := hd; simp_all; done) | (simp at hd; obtain ⟨rfl, rfl⟩ := hd; refine ⟨rfl, fun h' => ?_⟩; simp_all)

theorem entries_congr {v1 v2 : Vals} : ∀ {l : List Edge}, (∀ e ∈ l, Region.binds .any e = true → v1[e.on]? = v2[e.on]?) → entries v1 l = entries v2 l
  | [], _ => rfl
  | e :: r, h => by
    have ih := entries_congr (l := r) fun e' he' => h e' (List.mem_cons_of_mem _ he')
    simp only [entries]
    by_cases hb : Region.binds .any e = true
    · rw [if_pos hb, if_pos hb, h e (List.mem_cons_self ..) hb, ih]
    · rw [if_neg hb, if_neg hb, ih]

theorem isW_mem {i : Nat} : ∀ {W : WS}, isW i W = true ↔ ∃ x ∈ W, x.1 = i
  | [] => by simp [isW]
  | (k, st, h) :: r => by
    simp only [isW, Bool.or_eq_true, isW_mem (W := r), List.mem_cons, exists_eq_or_imp]
    constructor
    · rintro (h | h)
      · exact .inl (Nat.eq_of_beq_eq_true h)
      · exact .inr h
    · rintro (h | h)
      · exact .inl (by rw [h]; exact Nat.beq_refl i)
      · exact .inr h
theorem isW_append {i : Nat} {A W : WS} (h : isW i W = true) : isW i (A ++ W) = true := by
  obtain ⟨x, hx, he⟩ := isW_mem.1 h
  exact isW_mem.2 ⟨x, List.mem_append_right _ hx, he⟩

theorem heapN_head {o : Oper} {ws : WS} (hw : waitsHead o ws = true) : heapN h0 o ws = headH h0 ws := by
  cases ws with
  | nil => rfl
  | cons x r => obtain ⟨k, st, h1⟩ := x; simp only [waitsHead] at hw; simp only [heapN, headH, hw, if_true]

theorem store_box {env : Env} {h h' : Heap} {op : Op} {v : Option SV} {b : Nat} (hb : stBox env op = some b) (hd : doOp T O g env h op = some (v, h')) : ∀ i, i ≠ b → h'[i]? = h[i]? := by
  cases op <;> simp only [stBox] at hb <;> try (cases hb; done)
  rename_i t a x
  simp only [doOp] at hd
  split at hd
  · rename_i i q b2 d hx hy hTd
    rw [hx] at hb
    simp [boxOf] at hb
    subst hb
    split at hd
    · split at hd
      · simp at hd
        obtain ⟨_, rfl⟩ := hd
        intro j hj
        rw [List.getElem?_set_ne (Ne.symm hj)]
      · cases hd
    · cases hd
  · cases hd
theorem ldAt_app {ls x : Lds} {i : Nat} (h : i < ls.length) : ldAt (ls ++ x) i = ldAt ls i := by
  unfold ldAt
  rw [List.getElem?_append_left h]

theorem doOpsD_spec : ∀ (l : List Oper) (vals : Vals) (ws : WS) (ls : Lds) (vals' : Vals) (W : WS),
    doOpsD T O g all env0 h0 l vals ws ls = some (vals', W) → all.toList.drop vals.length = l → vals.length ≤ all.size → ls.length = vals.length → (∀ x ∈ ws, x.1 < vals.length) → Chain h0 ws → Late all ls ws ws →
    ∃ L : Lds, (∃ r, L = ls ++ r) ∧ (∃ r, vals' = vals ++ r) ∧ vals'.length = all.size ∧ (∃ pre, W = pre ++ ws ∧ ∀ x ∈ pre, vals.length ≤ x.1 ∧ x.1 < all.size) ∧ Chain h0 W ∧ Late all L W W ∧
    ∀ j o, vals.length ≤ j → all[j]? = some o → Sp T O g all env0 h0 vals' W L j o
  | [], vals, ws, ls, vals', W, hd, hl, hle, hll, hk, hc, ht => by
    simp [doOpsD] at hd
    obtain ⟨rfl, rfl⟩ := hd
    have hlen : vals.length = all.size := by
      have := congrArg List.length hl
      simp at this; omega
    exact ⟨ls, ⟨[], by simp⟩, ⟨[], by simp⟩, hlen, ⟨[], rfl, by simp⟩, hc, ht, fun j o hj ho => by
      have := (Array.getElem?_eq_some_iff.1 ho).1
      omega⟩
  | o :: r, vals, ws, ls, vals', W, hd, hl, hle, hll, hk, hc, ht => by
    have hjs : all[vals.length]? = some o := by
      have h1 : (all.toList.drop vals.length)[0]? = some o := by rw [hl]; rfl
      simpa using h1
    have hlt := (Array.getElem?_eq_some_iff.1 hjs).1
    have hr : all.toList.drop (vals.length + 1) = r := by rw [← List.drop_drop, hl]; rfl
    simp only [doOpsD] at hd
    split at hd
    case isFalse => cases hd
    rename_i hcond
    obtain ⟨hguard, hedges, hokN⟩ := hcond
    have hedge : ∀ e ∈ o.after, Region.binds .any e = true → e.on < vals.length := by
      intro e he hb
      have := List.all_eq_true.1 hedges e (by simpa using he)
      simpa [hb] using this
    have henv : ∀ x : Vals, envD all.toList env0 (vals ++ x) o = envD all.toList env0 vals o := by
      intro x
      unfold envD
      congr 1
      apply entries_congr
      intro e he hb
      rw [List.getElem?_append_left (hedge e (by simpa using he) hb)]
    -- what is late stays so
    have hlate : ∀ (add : WS) (x : Option Nat), Late all (ls ++ [x]) (add ++ ws) ws := by
      intro add x y hy b hb
      obtain ⟨o', h1, h2⟩ := ht y hy b hb
      refine ⟨o', h1, fun i hi => ?_⟩
      rcases h2 i hi with h | h | h | h
      · exact .inl h
      · exact .inr (.inl h)
      · exact .inr (.inr (.inl (isW_append h)))
      · exact .inr (.inr (.inr (by rw [ldAt_app (by have := hk y hy; omega)]; exact h)))
    have finish : ∀ (v : Option SV) (ws1 add : WS) (z : Option Nat), ws1 = add ++ ws → doOpsD T O g all env0 h0 r (vals ++ [o.dst.map (·, v)]) ws1 (ls ++ [z]) = some (vals', W) →
        (∀ x ∈ add, x.1 = vals.length) → Chain h0 ws1 → Late all (ls ++ [z]) ws1 ws1 →
        (∀ (x : Vals) (pre : WS) (L : Lds), vals' = vals ++ [o.dst.map (·, v)] ++ x → W = pre ++ ws1 → (∀ y ∈ pre, vals.length < y.1) → ldAt L vals.length = z → Sp T O g all env0 h0 vals' W L vals.length o) →
        ∃ L : Lds, (∃ r, L = ls ++ r) ∧ (∃ r, vals' = vals ++ r) ∧ vals'.length = all.size ∧ (∃ pre, W = pre ++ ws ∧ ∀ x ∈ pre, vals.length ≤ x.1 ∧ x.1 < all.size) ∧ Chain h0 W ∧ Late all L W W ∧
        ∀ j o, vals.length ≤ j → all[j]? = some o → Sp T O g all env0 h0 vals' W L j o := by
      intro v ws1 add z hadd h1 hkeys hc1 ht1 hsp
      obtain ⟨L, ⟨lr, hlr⟩, ⟨x, hx⟩, k2, ⟨pre, k3, k3'⟩, k4, k5, k6⟩ := doOpsD_spec r (vals ++ [o.dst.map (·, v)]) ws1 (ls ++ [z]) vals' W h1 (by simpa using hr) (by simp; omega) (by simp [hll]) (by
        intro y hy
        rw [hadd] at hy
        rcases List.mem_append.1 hy with h | h
        · have := hkeys y h; simp; omega
        · have := hk y h; simp; omega) hc1 ht1
      simp only [List.length_append, List.length_cons, List.length_nil, Nat.zero_add] at k3' k6
      refine ⟨L, ⟨[z] ++ lr, by simpa using hlr⟩, ⟨[o.dst.map (·, v)] ++ x, by simpa using hx⟩, k2, ⟨pre ++ add, by rw [k3, hadd, List.append_assoc], ?_⟩, k4, k5, ?_⟩
      · intro y hy
        rcases List.mem_append.1 hy with h | h
        · have := k3' y h; omega
        · have := hkeys y h; omega
      · intro j o' hj ho'
        by_cases e : j = vals.length
        · subst e
          rw [hjs] at ho'
          obtain rfl := Option.some.inj ho'
          refine hsp x pre L hx k3 (fun y hy => by have := k3' y hy; omega) ?_
          rw [hlr, ldAt_app (by simp [hll])]
          unfold ldAt
          rw [← hll]; simp
        · exact k6 j o' (by omega) ho'
    split at hd
    · rename_i v h' hop
      split at hd
      · rename_i hst
        split at hd
        · rename_i b hb
          split at hd
          · rename_i hw
            refine finish v _ [(vals.length, some b, h')] none rfl hd (by simp) ⟨?_, hc⟩ ?_ ?_
            · have := store_box hb hop
              rw [heapN_head hw.1] at this
              exact this
            · intro y hy b' hys
              rcases List.mem_cons.1 hy with rfl | hy
              · simp at hys
                subst hys
                refine ⟨o, hjs, fun i hi => ?_⟩
                have := List.all_eq_true.1 hw.2 i (List.mem_range.2 hi)
                simp only [Bool.or_eq_true] at this
                rcases this with ((h | h) | h) | h
                · exact .inl h
                · exact .inr (.inl h)
                · exact .inr (.inr (.inl (isW_append (A := [_]) h)))
                · exact .inr (.inr (.inr (by rw [ldAt_app (by simp at hi; omega)]; exact h)))
              · exact hlate [_] none y hy b' hys
            · intro x pre L hx hW hpre _
              refine ⟨v, ws, pre ++ [(vals.length, some b, h')], by rw [hW]; simp, by rw [hx]; simp, hguard, hedge, ?_, hk, .inr ⟨hw.1, pre, _, h', rfl, hpre, ?_⟩⟩
              · rw [hx, List.append_assoc, henv]; exact hokN
              · rw [hx, List.append_assoc, henv]; exact hop
          · cases hd
        · cases hd
      · rename_i hst
        have hst' : isStore o.op = false := by simpa using hst
        obtain ⟨n, hn⟩ := doOp_len hst' hop
        split at hd
        · rename_i hlen
          have hn0 : n = [] := by
            rw [hn] at hlen; simpa using hlen
          subst hn0
          rw [List.append_nil] at hn
          subst hn
          refine finish v ws [] _ rfl hd (by simp) hc (hlate [] _) ?_
          intro x pre L hx hW hpre hL
          refine ⟨v, ws, pre, hW, by rw [hx]; simp, hguard, hedge, ?_, hk, .inl ⟨hst', hpre, ?_, ?_⟩⟩
          · rw [hx, List.append_assoc, henv]; exact hokN
          · rw [hx, List.append_assoc, henv]; exact hL
          · rw [hx, List.append_assoc, henv]; exact hop
        · split at hd
          · rename_i hw
            refine finish v _ [(vals.length, none, h')] none rfl hd (by simp) ⟨⟨n, by have := heapN_head (h0 := h0) hw; rw [this] at hn; exact hn⟩, hc⟩ ?_ ?_
            · intro y hy b' hys
              rcases List.mem_cons.1 hy with rfl | hy
              · cases hys
              · exact hlate [_] none y hy b' hys
            · intro x pre L hx hW hpre _
              refine ⟨v, ws, pre ++ [(vals.length, none, h')], by rw [hW]; simp, by rw [hx]; simp, hguard, hedge, ?_, hk, .inr ⟨hw, pre, _, h', rfl, hpre, ?_⟩⟩
              · rw [hx, List.append_assoc, henv]; exact hokN
              · rw [hx, List.append_assoc, henv]; exact hop
          · cases hd
    · cases hd
end
end Go.Proofs.YtnkdmdjnnbkfgaaGreat.Eng
