/- A region that draws its order: whatever order, what the evaluator says holds. -/
import Derived.Test.YtmkpilmlgjnadaaEng6
namespace Go.Proofs.Ytmkpilmlgjnadaa.Eng
open Go Go.RowKit
set_option linter.unusedVariables false
set_option linter.unusedSimpArgs false

theorem doOp_len {T : Tab} {O : Orc} {g : List PC} {env : Env} {h h' : Heap} {op : Op} {v : Option SV} (hs : isStore op = false) (hd : doOp T O g env h op = some (v, h')) :
    ∃ n, h' = h ++ n := by
  cases op <;> simp only [doOp] at hd <;> try (cases hd; done)
  case alloc t =>
    split at hd
    · split at hd <;> simp at hd; exact ⟨_, hd.2.symm⟩
    · cases hd
  case box t x =>
    split at hd
    · split at hd <;> simp at hd; exact ⟨_, hd.2.symm⟩
    · cases hd
  case store t x y => simp [isStore] at hs
  case buildSlice t k parts =>
    split at hd
    · split at hd
      · split at hd <;> simp at hd; exact ⟨_, hd.2.symm⟩
      · cases hd
    · cases hd
  case call c =>
    split at hd
    · split at hd
      · split at hd
        · split at hd
          · rename_i r h2 hc
            simp at hd; obtain ⟨rfl, rfl⟩ := hd
            unfold callF at hc
            split at hc
            · split at hc
              · rename_i pre r' new hO1
                split at hc
                · cases new with
                  | nil => simp [grow] at hc; exact ⟨[], by simp [hc.2]⟩
                  | cons b bs => simp [grow] at hc; exact ⟨_, hc.2.symm⟩
                · cases hc
              · cases hc
            · cases hc
          · cases hd
        · cases hd
      · cases hd
    · split at hd
      · split at hd <;> simp at hd; exact ⟨[], by simp [hd.2]⟩
      · cases hd
    · cases hd
  all_goals
    refine ⟨[], ?_⟩
    rw [List.append_nil]
    (repeat' split at hd) <;> first | (cases hd; done) | (simp at hd; exact hd.2.symm)

section
variable {T : Tab} {O : Orc} {g : List PC} {all : Array Oper} {env0 : Env} {h0 : Heap} {vals : Vals} {m : Option (Nat × Heap)} {hE : Option (Nat × Heap)}

/-- What is told of operation j. -/
def Sp (T : Tab) (O : Orc) (g : List PC) (all : Array Oper) (env0 : Env) (h0 : Heap) (vals : Vals) (m : Option (Nat × Heap)) (hE : Option (Nat × Heap)) (j : Nat) (o : Oper) : Prop :=
  ∃ v, vals[j]? = some (o.dst.map (·, v)) ∧ (∀ e ∈ o.after, Region.binds .any e = true → e.on < j) ∧
    (((∀ k h1, m = some (k, h1) → k ≠ j) ∧ (∀ s hf, hE = some (s, hf) → j < s) ∧
        ((goes (envD all.toList env0 vals o) all o = some false ∧ v = none) ∨
         (goes (envD all.toList env0 vals o) all o = some true ∧ isStore o.op = false ∧ doOp T O g (envD all.toList env0 vals o) (heapFor m h0 o) o.op = some (v, heapFor m h0 o)))) ∨
     (goes (envD all.toList env0 vals o) all o = some true ∧ isStore o.op = false ∧ (∀ s hf, hE = some (s, hf) → j < s) ∧ ∃ h1 n, m = some (j, h1) ∧ heapFor m h0 o = h0 ∧ h1 = h0 ++ n ∧ doOp T O g (envD all.toList env0 vals o) h0 o.op = some (v, h1)) ∨
     (goes (envD all.toList env0 vals o) all o = some true ∧ (∀ k h1, m = some (k, h1) → k ≠ j) ∧ (∀ i, i < j → waitsFor o i = true ∨ pureAt all.toList i = true) ∧ ∃ hf, hE = some (j, hf) ∧ doOp T O g (envD all.toList env0 vals o) (heapFor m h0 o) o.op = some (v, hf)) ∨
     (goes (envD all.toList env0 vals o) all o = some true ∧ (∀ k h1, m = some (k, h1) → k ≠ j) ∧ ∃ s hf, hE = some (s, hf) ∧ s < j ∧ waitsFor o s = true ∧ doOp T O g (envD all.toList env0 vals o) hf o.op = some (v, hf)))

theorem pureAt_get : ∀ {l : List Oper} {i : Nat}, pureAt l i = true → ∃ o, l[i]? = some o ∧ isPure o.op = true
  | [], i, h => by cases h
  | o :: r, 0, h => ⟨o, rfl, h⟩
  | o :: r, i + 1, h => by
    obtain ⟨o', h1, h2⟩ := pureAt_get (l := r) (i := i) h
    exact ⟨o', by simpa using h1, h2⟩
theorem doOp_pure {env : Env} {h h1 : Heap} {op : Op} {v : Option SV} (hp : isPure op = true) (hd : doOp T O g env h op = some (v, h1)) : h1 = h ∧ ∀ h', doOp T O g env h' op = some (v, h') := by
  cases op <;> simp only [isPure] at hp <;> first | (cases hp; done) | skip
  all_goals
    simp only [doOp] at hd ⊢
    (repeat' split at hd) <;> first | (cases hd; done) | (simp at hd; obtain ⟨rfl, rfl⟩ := hd; simp_all; done) | (simp at hd; obtain ⟨rfl, rfl⟩ := hd; refine ⟨rfl, fun h' => ?_⟩; simp_all)

theorem entries_congr {v1 v2 : Vals} : ∀ {l : List Edge}, (∀ e ∈ l, Region.binds .any e = true → v1[e.on]? = v2[e.on]?) → entries v1 l = entries v2 l
  | [], _ => rfl
  | e :: r, h => by
    have ih := entries_congr (l := r) fun e' he' => h e' (List.mem_cons_of_mem _ he')
    simp only [entries]
    by_cases hb : Region.binds .any e = true
    · rw [if_pos hb, if_pos hb, h e (List.mem_cons_self ..) hb, ih]
    · rw [if_neg hb, if_neg hb, ih]

theorem doTail_spec {s : Nat} {hf : Heap} : ∀ (l : List Oper) (vals vals' : Vals),
    doTail all env0 s l vals = some vals' → all.toList.drop vals.length = l → vals.length ≤ all.size → s < vals.length → (∀ k h1, m = some (k, h1) → k ≤ s) →
    (∃ r, vals' = vals ++ r) ∧ vals'.length = all.size ∧ ∀ j o, vals.length ≤ j → all[j]? = some o → Sp T O g all env0 h0 vals' m (some (s, hf)) j o
  | [], vals, vals', hd, hl, hle, hs, hm => by
    simp [doTail] at hd
    subst hd
    have hlen : vals.length = all.size := by
      have := congrArg List.length hl
      simp at this; omega
    exact ⟨⟨[], by simp⟩, hlen, fun j o hj ho => by
      have := (Array.getElem?_eq_some_iff.1 ho).1
      omega⟩
  | o :: r, vals, vals', hd, hl, hle, hs, hm => by
    have hjs : all[vals.length]? = some o := by
      have h1 : (all.toList.drop vals.length)[0]? = some o := by rw [hl]; rfl
      simpa using h1
    have hlt := (Array.getElem?_eq_some_iff.1 hjs).1
    have hr : all.toList.drop (vals.length + 1) = r := by rw [← List.drop_drop, hl]; rfl
    simp only [doTail] at hd
    split at hd
    · rename_i x hgd hop
      split at hd
      · rename_i hc
        rw [Bool.and_eq_true] at hc
        obtain ⟨hedges, hw⟩ := hc
        split at hd
        · rename_i v hv
          have hedge : ∀ e ∈ o.after, Region.binds .any e = true → e.on < vals.length := by
            intro e he hb
            have := List.all_eq_true.1 hedges e (by simpa using he)
            simpa [hb] using this
          have henv : ∀ x : Vals, envD all.toList env0 (vals ++ x) o = envD all.toList env0 vals o := by
            intro x
            unfold envD
            congr 1
            apply entries_congr
            intro e he hb
            rw [List.getElem?_append_left (hedge e (by simpa using he) hb)]
          obtain ⟨⟨z, hz⟩, k2, k3⟩ := doTail_spec r (vals ++ [o.dst.map (·, some v)]) vals' hd (by simpa using hr) (by simp; omega) (by simp; omega) hm
          simp only [List.length_append, List.length_cons, List.length_nil, Nat.zero_add] at k3
          refine ⟨⟨[o.dst.map (·, some v)] ++ z, by simpa using hz⟩, k2, ?_⟩
          intro j o' hj ho'
          by_cases e : j = vals.length
          · subst e
            rw [hjs] at ho'
            obtain rfl := Option.some.inj ho'
            refine ⟨some v, by rw [hz]; simp, hedge, .inr (.inr (.inr ⟨?_, ?_, s, hf, rfl, hs, hw, ?_⟩))⟩
            · rw [hz, List.append_assoc, henv]; simp [goes, hgd]
            · intro k h1 hk; have := hm k h1 hk; omega
            · rw [hz, List.append_assoc, henv, hop]; simp [doOp, hv]
          · exact k3 j o' (by omega) ho'
        · cases hd
      · cases hd
    · cases hd

theorem doOpsD_spec : ∀ (l : List Oper) (vals : Vals) (m : Option (Nat × Heap)) (vals' : Vals) (m' : Option (Nat × Heap)) (hE : Option (Nat × Heap)),
    doOpsD T O g all env0 h0 l vals m = some (vals', m', hE) → all.toList.drop vals.length = l → vals.length ≤ all.size → (∀ k h1, m = some (k, h1) → k < vals.length) →
    (∃ r, vals' = vals ++ r) ∧ vals'.length = all.size ∧ (∀ k h1, m = some (k, h1) → m' = m) ∧ (∀ k h1, m' = some (k, h1) → (m = some (k, h1) ∨ (vals.length ≤ k ∧ k < all.size))) ∧
    (∀ s hf, hE = some (s, hf) → vals.length ≤ s ∧ s < all.size) ∧
    ∀ j o, vals.length ≤ j → all[j]? = some o → Sp T O g all env0 h0 vals' m' hE j o
  | [], vals, m, vals', m', hE, hd, hl, hle, hm => by
    simp [doOpsD] at hd
    obtain ⟨rfl, rfl, rfl⟩ := hd
    have hlen : vals.length = all.size := by
      have := congrArg List.length hl
      simp at this; omega
    exact ⟨⟨[], by simp⟩, hlen, fun _ _ _ => rfl, fun _ _ h => .inl h, by simp, fun j o hj ho => by
      have := (Array.getElem?_eq_some_iff.1 ho).1
      omega⟩
  | o :: r, vals, m, vals', m', hE, hd, hl, hle, hm => by
    have hjs : all[vals.length]? = some o := by
      have h1 : (all.toList.drop vals.length)[0]? = some o := by rw [hl]; rfl
      simpa using h1
    have hlt := (Array.getElem?_eq_some_iff.1 hjs).1
    have hr : all.toList.drop (vals.length + 1) = r := by rw [← List.drop_drop, hl]; rfl
    have hrl : r = [] ↔ vals.length + 1 = all.size := by
      have := congrArg List.length hr
      simp at this
      constructor
      · intro e; subst e; simp at this; omega
      · intro e; exact List.eq_nil_of_length_eq_zero (by omega)
    simp only [doOpsD] at hd
    split at hd
    case isFalse => cases hd
    rename_i hedges
    have hedge : ∀ e ∈ o.after, Region.binds .any e = true → e.on < vals.length := by
      intro e he hb
      have := List.all_eq_true.1 hedges e (by simpa using he)
      simpa [hb] using this
    -- the environment and the heap are those of the whole
    have henv : ∀ x : Vals, envD all.toList env0 (vals ++ x) o = envD all.toList env0 vals o := by
      intro x
      unfold envD
      congr 1
      apply entries_congr
      intro e he hb
      rw [List.getElem?_append_left (hedge e (by simpa using he) hb)]
    have hheap : ∀ m2 : Option (Nat × Heap), (∀ k h1, m = some (k, h1) → m2 = m) → (∀ k h1, m2 = some (k, h1) → (m = some (k, h1) ∨ vals.length ≤ k)) → heapFor m2 h0 o = heapFor m h0 o := by
      intro m2 h1 h2
      cases hmm : m with
      | some x => rw [h1 x.1 x.2 hmm, hmm]
      | none =>
        cases hm2 : m2 with
        | none => rfl
        | some x =>
          have := h2 x.1 x.2 hm2
          rcases this with h | h
          · rw [hmm] at h; cases h
          · simp only [heapFor]
            rw [if_neg]
            intro hw
            obtain ⟨e, he, hb⟩ := List.any_eq_true.1 hw
            simp at hb
            have := hedge e (by simpa using he) hb.1
            omega
    have finish : ∀ (v : Option SV) (m1 : Option (Nat × Heap)), doOpsD T O g all env0 h0 r (vals ++ [o.dst.map (·, v)]) m1 = some (vals', m', hE) →
        (∀ k h1, m = some (k, h1) → m1 = m) → (∀ k h1, m1 = some (k, h1) → (m = some (k, h1) ∨ k = vals.length)) →
        ((∀ x : Vals, vals' = vals ++ [o.dst.map (·, v)] ++ x → (∀ s hf, hE = some (s, hf) → vals.length < s) → (∀ k h1, m' = some (k, h1) → m1 = some (k, h1) ∨ vals.length + 1 ≤ k) → (∀ k h1, m1 = some (k, h1) → m' = m1) → Sp T O g all env0 h0 vals' m' hE vals.length o)) →
        (∃ r, vals' = vals ++ r) ∧ vals'.length = all.size ∧ (∀ k h1, m = some (k, h1) → m' = m) ∧ (∀ k h1, m' = some (k, h1) → (m = some (k, h1) ∨ (vals.length ≤ k ∧ k < all.size))) ∧
        (∀ s hf, hE = some (s, hf) → vals.length ≤ s ∧ s < all.size) ∧ ∀ j o, vals.length ≤ j → all[j]? = some o → Sp T O g all env0 h0 vals' m' hE j o := by
      intro v m1 h1 hm1 hm1' hsp
      obtain ⟨⟨x, hx⟩, k2, k3, k4, k5, k6⟩ := doOpsD_spec r (vals ++ [o.dst.map (·, v)]) m1 vals' m' hE h1 (by simpa using hr) (by simp; omega) (by
        intro k h2 hk
        rcases hm1' k h2 hk with h | h
        · have := hm k h2 h; simp; omega
        · simp; omega)
      simp only [List.length_append, List.length_cons, List.length_nil, Nat.zero_add] at k4 k5 k6
      refine ⟨⟨[o.dst.map (·, v)] ++ x, by simpa using hx⟩, k2, ?_, ?_, fun s hf hs => by have := k5 s hf hs; omega, ?_⟩
      · intro k h2 hk
        have e1 := hm1 k h2 hk
        rw [← e1]
        exact k3 k h2 (by rw [e1]; exact hk)
      · intro k h2 hk
        rcases k4 k h2 hk with h | h
        · rcases hm1' k h2 h with h | h
          · exact .inl h
          · subst h; exact .inr ⟨Nat.le_refl _, hlt⟩
        · exact .inr ⟨by omega, h.2⟩
      · intro j o' hj ho'
        by_cases e : j = vals.length
        · subst e
          rw [hjs] at ho'
          obtain rfl := Option.some.inj ho'
          refine hsp x hx ?_ ?_ k3
          · intro s hf hs
            have := k5 s hf hs
            omega
          · intro k h2 hk
            rcases k4 k h2 hk with h | h
            · exact .inl h
            · exact .inr h.1
        · exact k6 j o' (by omega) ho'
    split at hd
    · rename_i hg
      split at hd
      · rename_i v h' hop
        split at hd
        · rename_i hst
          split at hd
          · rename_i hw
            split at hd
            · rename_i vals2 htl
              simp at hd
              obtain ⟨rfl, rfl, rfl⟩ := hd
              obtain ⟨⟨z, hz⟩, t2, t3⟩ := doTail_spec (T := T) (O := O) (g := g) (h0 := h0) (m := m) (hf := h') r (vals ++ [o.dst.map (·, v)]) vals2 htl (by simpa using hr) (by simp; omega) (by simp) (fun k h1 hk => by have := hm k h1 hk; omega)
              simp only [List.length_append, List.length_cons, List.length_nil, Nat.zero_add] at t3
              refine ⟨⟨[o.dst.map (·, v)] ++ z, by simpa using hz⟩, t2, fun _ _ _ => rfl, fun _ _ h => .inl h, fun s hf hs => by simp at hs; omega, ?_⟩
              intro j o' hj ho'
              by_cases hje : j = vals.length
              · subst hje
                rw [hjs] at ho'
                obtain rfl := Option.some.inj ho'
                refine ⟨v, by rw [hz]; simp, hedge, .inr (.inr (.inl ⟨?_, ?_, ?_, h', rfl, ?_⟩))⟩
                · rw [hz, List.append_assoc, henv]; exact hg
                · intro k h1 hk; have := hm k h1 hk; omega
                · intro i hi
                  exact (Bool.or_eq_true _ _).mp (List.all_eq_true.1 hw i (List.mem_range.2 hi))
                · rw [hz, List.append_assoc, henv]; exact hop
              · exact t3 j o' (by omega) ho'
            · cases hd
          · cases hd
        · rename_i hst
          have hst' : isStore o.op = false := by simpa using hst
          split at hd
          · rename_i hlen
            refine finish v m hd (fun _ _ _ => rfl) (fun k h1 hk => .inl hk) ?_
            intro x hx hE1 hm1 hm2
            have hh := hheap m' hm2 (fun k h1 hk => (hm1 k h1 hk).imp id (fun h => by omega))
            obtain ⟨n, hn⟩ := doOp_len hst' hop
            have hn0 : n = [] := by
              rw [hn] at hlen; simpa using hlen
            subst hn0
            rw [List.append_nil] at hn
            subst hn
            refine ⟨v, by rw [hx]; simp, hedge, .inl ⟨?_, hE1, .inr ⟨?_, hst', ?_⟩⟩⟩
            · intro k h1 hk e
              rcases hm1 k h1 hk with h | h
              · have := hm k h1 h; omega
              · omega
            · rw [hx, List.append_assoc, henv]; exact hg
            · rw [hx, List.append_assoc, henv, hh]; exact hop
          · split at hd
            · refine finish v _ hd (by simp) (by intro k h1 hk; simp at hk; exact .inr hk.1.symm) ?_
              intro x hx hE1 hm1 hm2
              have hm' := hm2 _ _ rfl
              obtain ⟨n, hn⟩ := doOp_len hst' hop
              have hhf : heapFor m' h0 o = h0 := by
                have := hheap m' (by simp) (fun k h1 hk => .inr (by
                  rw [hm'] at hk; simp at hk; omega))
                rw [this]; rfl
              refine ⟨v, by rw [hx]; simp, hedge, .inr (.inl ⟨?_, hst', hE1, h', n, hm', hhf, by simpa [heapFor] using hn, ?_⟩)⟩
              · rw [hx, List.append_assoc, henv]; exact hg
              · rw [hx, List.append_assoc, henv]; exact hop
            · cases hd
      · cases hd
    · rename_i hg
      refine finish none m hd (fun _ _ _ => rfl) (fun k h1 hk => .inl hk) ?_
      intro x hx hE1 hm1 hm2
      refine ⟨none, by rw [hx]; simp, hedge, .inl ⟨?_, hE1, .inl ⟨?_, rfl⟩⟩⟩
      · intro k h1 hk e
        rcases hm1 k h1 hk with h | h
        · have := hm k h1 h; omega
        · omega
      · rw [hx, List.append_assoc, henv]; exact hg
    · cases hd
end
end Go.Proofs.Ytmkpilmlgjnadaa.Eng
