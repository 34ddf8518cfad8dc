/- A region that draws its order: whatever order, what the evaluator says holds: the run. -/
import Derived.Test.YtcnapkdccjibpaaGreatDoorEng7
namespace Go.Proofs.YtcnapkdccjibpaaGreatDoor.Eng
open Go Go.RowKit
set_option linter.unusedVariables false
set_option linter.unusedSimpArgs false

theorem look_append {l base : Env} {t : Nat} {v : SV} (h : look (l ++ base) t = some v) : (t, some v) ∈ l ∨ look base t = some v := by
  induction l with
  | nil => exact .inr h
  | cons x r ih =>
    obtain ⟨t', v'⟩ := x
    simp only [List.cons_append, look] at h
    by_cases e : t = t'
    · rw [if_pos e] at h; subst e; exact .inl (by rw [h]; exact List.mem_cons_self ..)
    · rw [if_neg e] at h
      rcases ih h with h | h
      · exact .inl (List.mem_cons_of_mem _ h)
      · exact .inr h

theorem look_append_no {l base : Env} {t : Nat} (hn : ∀ v, (t, v) ∉ l) : look (l ++ base) t = look base t := by
  induction l with
  | nil => rfl
  | cons x r ih =>
    obtain ⟨t', v'⟩ := x
    simp only [List.cons_append, look]
    rw [if_neg (fun e => hn v' (by subst e; exact List.mem_cons_self ..)), ih (fun v hv => hn v (List.mem_cons_of_mem _ hv))]

theorem ER.append {ρ : List Blk} {G : List Addr} {l base : Env} {tmps : Array Value} (hb : ER ρ G base tmps)
    (hl : ∀ t v, (t, some v) ∈ l → tmps[t]? = some (v.conc ρ G) ∧ v.wf ρ) : ER ρ G (l ++ base) tmps where
  at_ t v hv := (look_append hv).elim (fun h => (hl t v h).1) (fun h => hb.at_ t v h)
  wf t v hv := (look_append hv).elim (fun h => (hl t v h).2) (fun h => hb.wf t v h)

theorem mem_entries {vals : Vals} {x : Nat × Option SV} : ∀ {l : List Edge}, x ∈ entries vals l → ∃ e ∈ l, Region.binds .any e = true ∧ vals[e.on]? = some (some x)
  | [], h => by simp [entries] at h
  | e :: r, h => by
    simp only [entries] at h
    split at h
    · rename_i hb
      split at h
      · rename_i y hy
        rcases List.mem_cons.1 h with rfl | h
        · exact ⟨e, List.mem_cons_self .., hb, hy⟩
        · obtain ⟨e', he', h'⟩ := mem_entries h
          exact ⟨e', List.mem_cons_of_mem _ he', h'⟩
      · obtain ⟨e', he', h'⟩ := mem_entries h
        exact ⟨e', List.mem_cons_of_mem _ he', h'⟩
    · obtain ⟨e', he', h'⟩ := mem_entries h
      exact ⟨e', List.mem_cons_of_mem _ he', h'⟩

theorem mem_dstsOf {d : Nat} : ∀ {l : List Oper}, (∃ o ∈ l, o.dst = some d) → (d, (none : Option SV)) ∈ dstsOf l
  | [], h => by simp at h
  | o :: r, h => by
    obtain ⟨o', ho, hd⟩ := h
    simp only [dstsOf]
    rcases List.mem_cons.1 ho with rfl | ho
    · rw [hd]; exact List.mem_cons_self ..
    · have ih := mem_dstsOf ⟨o', ho, hd⟩
      split
      · exact List.mem_cons_of_mem _ ih
      · exact ih
theorem waitsAt_out : ∀ {l : List Oper} {k i : Nat}, waitsAt l k i = true → ∃ o, l[k]? = some o ∧ waitsFor o i = true
  | [], k, i, h => by simp [waitsAt] at h
  | o :: r, 0, i, h => ⟨o, rfl, h⟩
  | o :: r, k + 1, i, h => by
    obtain ⟨o', h1, h2⟩ := waitsAt_out (l := r) h
    exact ⟨o', by simpa using h1, h2⟩
theorem byWay_out {l : List Oper} {o : Oper} {i : Nat} : ∀ {n : Nat}, byWay l o i n = true → ∃ k o2, waitsFor o k = true ∧ l[k]? = some o2 ∧ waitsFor o2 i = true
  | 0, h => by simp [byWay] at h
  | n + 1, h => by
    simp only [byWay, Bool.or_eq_true, Bool.and_eq_true] at h
    rcases h with ⟨h1, h2⟩ | h
    · obtain ⟨o2, h3, h4⟩ := waitsAt_out h2
      exact ⟨n, o2, h1, h3, h4⟩
    · exact byWay_out h
theorem mem_dstsW {d n : Nat} : ∀ {l : List Oper}, (∃ o ∈ l, o.dst = some d ∧ lastOf n o = false) → (d, (none : Option SV)) ∈ dstsW n l
  | [], h => by simp at h
  | o :: r, h => by
    obtain ⟨o', ho, hd, hl⟩ := h
    simp only [dstsW]
    rcases List.mem_cons.1 ho with rfl | ho
    · rw [hd, hl]; exact List.mem_cons_self ..
    · have ih := mem_dstsW ⟨o', ho, hd, hl⟩
      split
      · cases lastOf n o
        · exact List.mem_cons_of_mem _ ih
        · exact ih
      · exact ih
theorem dstsW_none {x : Nat × Option SV} {n : Nat} : ∀ {l : List Oper}, x ∈ dstsW n l → x.2 = none
  | [], h => by simp [dstsW] at h
  | o :: r, h => by
    simp only [dstsW] at h
    split at h
    · cases hl : lastOf n o <;> rw [hl] at h
      · rcases List.mem_cons.1 h with rfl | h
        · rfl
        · exact dstsW_none h
      · exact dstsW_none h
    · exact dstsW_none h
theorem cntW_le {o : Oper} : ∀ (k : Nat), cntW o k ≤ k
  | 0 => Nat.le_refl _
  | k + 1 => by
    have := cntW_le (o := o) k
    simp only [cntW]
    cases waitsFor o k <;> simp <;> omega
theorem cntW_one {o : Oper} {i : Nat} (hi : waitsFor o i = false) : ∀ (k : Nat), i < k → cntW o k + 1 ≤ k
  | 0, h => by omega
  | k + 1, h => by
    simp only [cntW]
    by_cases e : i = k
    · subst e
      rw [hi]
      have := cntW_le (o := o) i
      simp; omega
    · have := cntW_one hi k (by omega)
      cases waitsFor o k <;> simp <;> omega
theorem cntW_two {o : Oper} {i j : Nat} (hij : i ≠ j) (hi : waitsFor o i = false) (hj : waitsFor o j = false) : ∀ (k : Nat), i < k → j < k → cntW o k + 2 ≤ k
  | 0, h, _ => by omega
  | k + 1, h1, h2 => by
    simp only [cntW]
    by_cases e : i = k
    · subst e
      rw [hi]
      have := cntW_one hj i (by omega)
      simp; omega
    · by_cases e2 : j = k
      · subst e2
        rw [hj]
        have := cntW_one hi j (by omega)
        simp; omega
      · have := cntW_two hij hi hj k (by omega) (by omega)
        cases waitsFor o k <;> simp <;> omega
theorem dstsOf_none {x : Nat × Option SV} : ∀ {l : List Oper}, x ∈ dstsOf l → x.2 = none
  | [], h => by simp [dstsOf] at h
  | o :: r, h => by
    simp only [dstsOf] at h
    split at h
    · rcases List.mem_cons.1 h with rfl | h
      · rfl
      · exact dstsOf_none h
    · exact dstsOf_none h
theorem dstsOf_mem {x : Nat × Option SV} : ∀ {l : List Oper}, x ∈ dstsOf l → ∃ o ∈ l, o.dst = some x.1
  | [], h => by simp [dstsOf] at h
  | o :: r, h => by
    simp only [dstsOf] at h
    split at h
    · rename_i d hd
      rcases List.mem_cons.1 h with rfl | h
      · exact ⟨o, List.mem_cons_self .., hd⟩
      · obtain ⟨o', ho, h'⟩ := dstsOf_mem h
        exact ⟨o', List.mem_cons_of_mem _ ho, h'⟩
    · obtain ⟨o', ho, h'⟩ := dstsOf_mem h
      exact ⟨o', List.mem_cons_of_mem _ ho, h'⟩

theorem look_masked {l base : Env} (hn : ∀ x ∈ l, x.2 = none) {t : Nat} {v : SV} (h : look (l ++ base) t = some v) : (∀ v, (t, v) ∉ l) ∧ look base t = some v := by
  induction l with
  | nil => exact ⟨by simp, h⟩
  | cons x r ih =>
    obtain ⟨t', v'⟩ := x
    simp only [List.cons_append, look] at h
    by_cases e : t = t'
    · rw [if_pos e] at h
      have := hn (t', v') (List.mem_cons_self ..)
      simp at this; subst this; cases h
    · rw [if_neg e] at h
      obtain ⟨h1, h2⟩ := ih (fun y hy => hn y (List.mem_cons_of_mem _ hy)) h
      refine ⟨fun v hv => ?_, h2⟩
      rcases List.mem_cons.1 hv with h | h
      · injection h with h _; exact e h
      · exact h1 v h

theorem apartD_spec : ∀ {l : List Oper}, apartD l = true → ∀ (i j : Nat) (oi oj : Oper) (d : Nat), l[i]? = some oi → l[j]? = some oj → oi.dst = some d → oj.dst = some d → i = j
  | [], _, i, j, oi, oj, d, hi, hj, hdi, hdj => by simp at hi
  | o :: r, h, i, j, oi, oj, d, hi, hj, hdi, hdj => by
    simp only [apartD, Bool.and_eq_true] at h
    obtain ⟨h1, h2⟩ := h
    have ne : ∀ o' ∈ r, o.dst = some d → o'.dst = some d → False := by
      intro o' ho' hd hd'
      rw [hd] at h1
      have := List.all_eq_true.1 h1 o' ho'
      simp [hd'] at this
    cases i with
    | zero =>
      simp at hi; subst hi
      cases j with
      | zero => rfl
      | succ j =>
        simp at hj
        exact (ne oj (List.mem_of_getElem? hj) hdi hdj).elim
    | succ i =>
      simp at hi
      cases j with
      | zero =>
        simp at hj; subst hj
        exact (ne oi (List.mem_of_getElem? hi) hdj hdi).elim
      | succ j =>
        simp at hj
        rw [apartD_spec h2 i j oi oj d hi hj hdi hdj]

/-- How many have not come up. -/
def left (n : Nat) (listed : Array Bool) : Nat := (List.range n).countP fun j => !listed.getD j true

theorem countP_less {α : Type} {p q : α → Bool} (hpq : ∀ x, q x = true → p x = true) : ∀ {l : List α} {i : α}, i ∈ l → p i = true → q i = false → l.countP q + 1 ≤ l.countP p
  | [], i, h, _, _ => by simp at h
  | x :: r, i, h, hp, hq => by
    have hle : r.countP q ≤ r.countP p := List.countP_mono_left fun x _ hx => hpq x hx
    simp only [List.countP_cons]
    rcases List.mem_cons.1 h with rfl | h
    · rw [hp, hq]; simp; omega
    · have ih := countP_less hpq h hp hq
      by_cases hx : q x = true
      · rw [hx, hpq x hx]; simp; omega
      · simp [hx]; split <;> omega

theorem left_set {n : Nat} {listed : Array Bool} {i : Nat} (hn : listed.size = n) (hi : i < n) (hl : listed.getD i true = false) : left n (listed.setIfInBounds i true) + 1 ≤ left n listed := by
  unfold left
  refine countP_less ?_ (List.mem_range.2 hi) (by simp [hl]) ?_
  · intro x hx
    by_cases e : x = i
    · subst e
      simp [hn, hi] at hx
    · rw [getD_set_ne true (Ne.symm e)] at hx; exact hx
  · simp [hn, hi]

end Go.Proofs.YtcnapkdccjibpaaGreatDoor.Eng
