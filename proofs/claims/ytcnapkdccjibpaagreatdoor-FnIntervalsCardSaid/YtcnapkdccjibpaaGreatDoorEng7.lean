/- A region that draws its order: whatever order, what the evaluator says holds. -/
import Derived.Test.YtcnapkdccjibpaaGreatDoorEng6
namespace Go.Proofs.YtcnapkdccjibpaaGreatDoor.Eng
open Go Go.RowKit
set_option linter.unusedVariables false
set_option linter.unusedSimpArgs false

section
variable {T : Tab} {O : Orc} {g : Gv} {all : Array Oper} {env0 : Env} {h0 : Heap} {A : Nat} {vals : Vals}

/-- The boxes ahead of the region, and the places of those that are made in any order. -/
def base0 (h0 : Heap) (A : Nat) : Heap := h0 ++ List.replicate A []

/-- What is told of operation j. -/
def Sp (T : Tab) (O : Orc) (g : Gv) (all : Array Oper) (env0 : Env) (h0 : Heap) (A : Nat) (vals : Vals) (F : FL) (W : WS) (L : Lds) (j : Nat) (o : Oper) : Prop :=
  ∃ v, vals[j]? = some (o.dst.map (·, v)) ∧ (∀ e ∈ o.after, Region.binds .any e = true → e.on < j) ∧
    ((goes (envD all.toList env0 vals o) all o = some false ∧ v = some (.tup []) ∧ (∀ x ∈ W, x.1 ≠ j) ∧ (∀ f ∈ F, f.1 ≠ j)) ∨ goes (envD all.toList env0 vals o) all o = some true ∧
    ((isFree o = true ∧ (∀ x ∈ W, x.1 ≠ j) ∧ ∃ k cs h', (j, h0.length + k, cs) ∈ F ∧ doOp T O g (envD all.toList env0 vals o) (h0 ++ List.replicate k []) o.op = some (v, h') ∧ h'[h0.length + k]? = some cs) ∨
     ((∀ f ∈ F, f.1 ≠ j) ∧ ∃ ws pre, W = pre ++ ws ∧ okN o (ldOf (envD all.toList env0 vals o) o.op) ws = true ∧ (∀ x ∈ ws, x.1 < j) ∧
      ((touch O (envD all.toList env0 vals o) o.op = none ∧ (∀ x ∈ pre, j < x.1) ∧ ldAt L j = ldOf (envD all.toList env0 vals o) o.op ∧
          doOp T O g (envD all.toList env0 vals o) (heapN (fillH (waitsFor o) (base0 h0 A) F) o ws) o.op = some (v, heapN (fillH (waitsFor o) (base0 h0 A) F) o ws)) ∨
       (waitsHead o ws = true ∧ (∀ f ∈ F, waitsFor o f.1 = true) ∧ ∃ pre' st h', pre = pre' ++ [(j, st, h')] ∧ (∀ x ∈ pre', j < x.1) ∧
          doOp T O g (envD all.toList env0 vals o) (heapN (fillH (waitsFor o) (base0 h0 A) F) o ws) o.op = some (v, h'))))))

/-- What turns no box adds boxes; a store leaves the other boxes. -/
def Chain (h0 : Heap) : WS → Prop
  | [] => True
  | (_, st, h1) :: r => (match st with
    | none => ∃ n, h1 = headH h0 r ++ n
    | some (some b) => ∀ i, i ≠ b → h1[i]? = (headH h0 r)[i]?
    | some none => True) ∧ Chain h0 r

/-- What turns boxes waits for all that stands ahead of it, but for that to which it does not matter and for what is in the chain. -/
def Late (all : Array Oper) (L : Lds) (W : WS) (V : WS) : Prop := ∀ x ∈ V, ∀ b, x.2.1 = some b → ∃ o', all[x.1]? = some o' ∧ ∀ i, i < x.1 → waitsFor o' i = true ∨ pureAt all.toList i = true ∨ isW i W = true ∨ otherT b (ldAt L i) = true ∨ byWay all.toList o' i all.toList.length = true

/-- The places of the boxes that are made in any order. -/
def FlOk (h0 : Heap) (A : Nat) : FL → Prop
  | [] => True
  | (j, i, _) :: r => i = h0.length + r.length ∧ r.length < A ∧ (∀ f ∈ r, f.1 < j) ∧ FlOk h0 A r

theorem pureAt_get : ∀ {l : List Oper} {i : Nat}, pureAt l i = true → ∃ o, l[i]? = some o ∧ isPure o.op = true
  | [], i, h => by cases h
  | o :: r, 0, h => ⟨o, rfl, h⟩
  | o :: r, i + 1, h => by
    obtain ⟨o', h1, h2⟩ := pureAt_get (l := r) (i := i) h
    exact ⟨o', by simpa using h1, h2⟩
theorem textF_t {du d : TD} {x : Option (Nat × List PC)} : textF true du d x = none := by
  unfold textF; split <;> simp
theorem byteF_t {du d : TD} {h : Heap} {s : ByteArray} : byteF true du d h s = none := by
  unfold byteF; simp
theorem doOp_pure {env : Env} {h h1 : Heap} {op : Op} {v : Option SV} (hp : isPure op = true) (hd : doOp T O g env h op = some (v, h1)) : h1 = h ∧ ∀ h', doOp T O g env h' op = some (v, h') := by
  cases op <;> simp only [isPure] at hp <;> first | (cases hp; done) | skip
  case convert u t x =>
    simp only [doOp, hp, textF_t, byteF_t] at hd ⊢
    split at hd
    · split at hd
      · simp at hd; obtain ⟨rfl, rfl⟩ := hd; simp_all
      · cases hd
    · cases hd
    · cases hd
    · cases hd
  all_goals
    simp only [doOp] at hd ⊢
    (repeat' split at hd) <;> first | (cases hd; done) | (simp at hd; obtain ⟨rfl, rfl⟩ := hd; simp_all; done) | (simp at hd; obtain ⟨rfl, rfl⟩ := hd; refine ⟨rfl, fun h' => ?_⟩; simp_all)

theorem entries_congr {v1 v2 : Vals} : ∀ {l : List Edge}, (∀ e ∈ l, Region.binds .any e = true → v1[e.on]? = v2[e.on]?) → entries v1 l = entries v2 l
  | [], _ => rfl
  | e :: r, h => by
    have ih := entries_congr (l := r) fun e' he' => h e' (List.mem_cons_of_mem _ he')
    simp only [entries]
    by_cases hb : Region.binds .any e = true
    · rw [if_pos hb, if_pos hb, h e (List.mem_cons_self ..) hb, ih]
    · rw [if_neg hb, if_neg hb, ih]

theorem isW_mem {i : Nat} : ∀ {W : WS}, isW i W = true ↔ ∃ x ∈ W, x.1 = i
  | [] => by simp [isW]
  | (k, st, h) :: r => by
    simp only [isW, Bool.or_eq_true, isW_mem (W := r), List.mem_cons, exists_eq_or_imp]
    constructor
    · rintro (h | h)
      · exact .inl (Nat.eq_of_beq_eq_true h)
      · exact .inr h
    · rintro (h | h)
      · exact .inl (by rw [h]; exact Nat.beq_refl i)
      · exact .inr h
theorem isW_append {i : Nat} {A W : WS} (h : isW i W = true) : isW i (A ++ W) = true := by
  obtain ⟨x, hx, he⟩ := isW_mem.1 h
  exact isW_mem.2 ⟨x, List.mem_append_right _ hx, he⟩

theorem heapN_head {b : Heap} {o : Oper} {ws : WS} (hw : waitsHead o ws = true) : heapN b o ws = headH b ws := by
  cases ws with
  | nil => rfl
  | cons x r => obtain ⟨k, st, h1⟩ := x; simp only [waitsHead] at hw; simp only [heapN, headH, hw, if_true]

theorem flok_place : ∀ {F : FL}, FlOk h0 A F → F.length ≤ A ∧ ∀ f ∈ F, h0.length ≤ f.2.1 ∧ f.2.1 < h0.length + F.length
  | [], _ => ⟨by simp, fun f hf => by cases hf⟩
  | (j, i, cs) :: r, h => by
    obtain ⟨h1, h2, h3, h4⟩ := h
    obtain ⟨k1, k2⟩ := flok_place h4
    refine ⟨by simp only [List.length_cons]; omega, fun f hf => ?_⟩
    simp only [List.length_cons]
    rcases List.mem_cons.1 hf with rfl | hf
    · simp only; omega
    · have := k2 f hf; omega
theorem fill_congr' {p q : Nat → Bool} {b : Heap} : ∀ {F : FL}, (∀ f ∈ F, p f.1 = q f.1) → fillH p b F = fillH q b F
  | [], _ => rfl
  | (j, i, cs) :: r, h => by
    simp only [fillH]
    rw [h (j, i, cs) (List.mem_cons_self ..), fill_congr' (F := r) fun f hf => h f (List.mem_cons_of_mem _ hf)]
theorem fill_len {p : Nat → Bool} {b : Heap} : ∀ {F : FL}, (fillH p b F).length = b.length
  | [] => rfl
  | (j, i, cs) :: r => by
    simp only [fillH]
    split
    · rw [List.length_set, fill_len (F := r)]
    · exact fill_len (F := r)
theorem fill_other {p : Nat → Bool} {b : Heap} {i : Nat} : ∀ {F : FL}, (∀ f ∈ F, f.2.1 ≠ i) → (fillH p b F)[i]? = b[i]?
  | [], _ => rfl
  | (j, k, cs) :: r, h => by
    have ih := fill_other (p := p) (b := b) (F := r) (fun f hf => h f (List.mem_cons_of_mem _ hf))
    simp only [fillH]
    split
    · rw [List.getElem?_set_ne (h (j, k, cs) (List.mem_cons_self ..)), ih]
    · exact ih
/-- One more is made. -/
theorem fill_add {p q : Nat → Bool} {b : Heap} {j i : Nat} {cs : List PC} (hp : p j = false) (hq : q j = true) (ho : ∀ k, k ≠ j → p k = q k) : ∀ {F : FL}, FlOk h0 A F → (j, i, cs) ∈ F → fillH q b F = (fillH p b F).set i cs ∧ (fillH p b F)[i]? = b[i]?
  | [], _, h => by cases h
  | (j0, i0, c0) :: r, h, hm => by
    obtain ⟨h1, h2, h3, h4⟩ := h
    have hpl := (flok_place h4).2
    simp only [fillH]
    rcases List.mem_cons.1 hm with e | hm
    · simp only [Prod.mk.injEq] at e
      obtain ⟨rfl, rfl, rfl⟩ := e
      rw [hp, hq, if_pos rfl, if_neg (by simp)]
      refine ⟨?_, fill_other fun f hf => by have := hpl f hf; omega⟩
      rw [fill_congr' (p := q) (q := p) fun f hf => (ho f.1 (by have := h3 f hf; omega)).symm]
    · have hlt := h3 _ hm
      have hpi := hpl _ hm
      simp only at hlt hpi
      obtain ⟨k1, k2⟩ := fill_add hp hq ho h4 hm
      rw [← ho j0 (by omega)]
      split
      · rw [k1, List.set_comm _ _ (show i ≠ i0 by omega)]
        refine ⟨rfl, ?_⟩
        rw [List.getElem?_set_ne (show i0 ≠ i by omega)]; exact k2
      · exact ⟨k1, k2⟩
theorem More.set {a b : Heap} (m : More a b) (hl : a.length = b.length) (i : Nat) (cs : List PC) : More (a.set i cs) (b.set i cs) := fun j ds hj hne => by
  by_cases e : i = j
  · subst e
    have hil : i < (a.set i cs).length := (List.getElem?_eq_some_iff.1 hj).1
    simp at hil
    have hib : i < b.length := by omega
    simp [hil] at hj
    simp [hib, hj]
  · rw [List.getElem?_set_ne e] at hj ⊢; exact m j ds hj hne
theorem base_empty {i : Nat} (h1 : h0.length ≤ i) (h2 : i < h0.length + A) : (base0 h0 A)[i]? = some [] := by
  unfold base0
  rw [List.getElem?_append_right h1, List.getElem?_replicate, if_pos (by omega)]
theorem fill_more {p q : Nat → Bool} (hpq : ∀ k, p k = true → q k = true) : ∀ {F : FL}, FlOk h0 A F → More (fillH p (base0 h0 A) F) (fillH q (base0 h0 A) F)
  | [], _ => More.refl _
  | (j, i, cs) :: r, h => by
    obtain ⟨h1, h2, h3, h4⟩ := h
    have ih := fill_more hpq h4
    have hpl := (flok_place h4).2
    simp only [fillH]
    cases hp : p j with
    | true =>
      rw [hpq j hp, if_pos rfl, if_pos rfl]
      exact ih.set (by rw [fill_len, fill_len]) i cs
    | false =>
      rw [if_neg (by simp)]
      split
      · refine ih.trans (More.fill ?_)
        rw [fill_other fun f hf => by have := hpl f hf; omega, base_empty (by omega) (by omega)]
        rfl
      · exact ih

theorem store_box {env : Env} {h h' : Heap} {op : Op} {v : Option SV} {b : Nat} (hb : touch O env op = some (some b)) (hd : doOp T O g env h op = some (v, h')) : ∀ i, i ≠ b → h'[i]? = h[i]? := by
  unfold touch at hb
  split at hb
  · rename_i t a x
    simp only [doOp] at hd
    split at hd
    · rename_i i q b2 d hx hy hTd
      rw [hx] at hb
      simp [boxOf] at hb
      subst hb
      split at hd
      · split at hd
        · simp at hd
          obtain ⟨_, rfl⟩ := hd
          intro j hj
          rw [List.getElem?_set_ne (Ne.symm hj)]
        · cases hd
      · cases hd
    · cases hd
  · simp at hb
  · rename_i f l ts
    unfold touchC at hb
    split at hb
    · rename_i fa args hfa
      split at hb
      · rename_i k caps hk
        cases hq : O.m k with
        | none => rw [hq] at hb; simp at hb
        | some M =>
          rw [hq] at hb
          simp only [Option.isSome_some, cond_true, Option.some.injEq] at hb
          unfold oneB at hb
          split at hb
          · rename_i la h1 h3
            simp only [doOp] at hd
            rw [hfa] at hd
            simp only [hk, h3] at hd
            split at hd
            · rename_i r h2 hc
              simp only [Option.some.injEq, Prod.mk.injEq] at hd
              obtain ⟨_, rfl⟩ := hd
              unfold callF at hc
              rw [hq] at hc
              simp only [List.map_nil, List.append_nil] at hc
              split at hc
              · rename_i pre r' h3' hM
                split at hc
                · simp only [Option.some.injEq, Prod.mk.injEq] at hc
                  obtain ⟨_, rfl⟩ := hc
                  obtain ⟨b', hb', hall⟩ := O.ok k M hq h1 _ _ _ _ _ _ hM
                  rw [hb] at hb'
                  obtain rfl := Option.some.inj hb'
                  exact hall
                · cases hc
              · cases hc
            · cases hd
          · cases hb
      · cases hb
    · cases hb
  · cases hb
theorem ldAt_app {ls x : Lds} {i : Nat} (h : i < ls.length) : ldAt (ls ++ x) i = ldAt ls i := by
  unfold ldAt
  rw [List.getElem?_append_left h]
theorem waitsFl_all {o : Oper} : ∀ {F : FL}, waitsFl o F = true → ∀ f ∈ F, waitsFor o f.1 = true
  | [], _, f, hf => by cases hf
  | (j, i, cs) :: r, h, f, hf => by
    simp only [waitsFl, Bool.and_eq_true] at h
    rcases List.mem_cons.1 hf with rfl | hf
    · exact h.1
    · exact waitsFl_all h.2 f hf

/-- The boxes with all that are made in any order. -/
def fullH (h0 : Heap) (A : Nat) (F : FL) : Heap := fillH (fun _ => true) (base0 h0 A) F

theorem doOpsD_spec : ∀ (l : List Oper) (vals : Vals) (fl : FL) (ws : WS) (ls : Lds) (vals' : Vals) (F : FL) (W : WS),
    doOpsD T O g all env0 h0 A l vals fl ws ls = some (vals', F, W) → all.toList.drop vals.length = l → vals.length ≤ all.size → ls.length = vals.length → (∀ x ∈ ws, x.1 < vals.length) → (∀ f ∈ fl, f.1 < vals.length) → FlOk h0 A fl →
    (ws ≠ [] → fl.length = A) → Chain (fullH h0 A fl) ws → Late all ls ws ws →
    ∃ L : Lds, (∃ r, L = ls ++ r) ∧ (∃ r, vals' = vals ++ r) ∧ vals'.length = all.size ∧ (∃ pre, W = pre ++ ws ∧ ∀ x ∈ pre, vals.length ≤ x.1 ∧ x.1 < all.size) ∧ (∃ pre, F = pre ++ fl ∧ ∀ f ∈ pre, vals.length ≤ f.1 ∧ f.1 < all.size) ∧ F.length = A ∧ FlOk h0 A F ∧
    Chain (fullH h0 A F) W ∧ Late all L W W ∧ ∀ j o, vals.length ≤ j → all[j]? = some o → Sp T O g all env0 h0 A vals' F W L j o
  | [], vals, fl, ws, ls, vals', F, W, hd, hl, hle, hll, hk, hfk, hfo, hwf, hc, ht => by
    simp only [doOpsD] at hd
    split at hd
    case isFalse => cases hd
    rename_i hfA
    simp at hd
    obtain ⟨rfl, rfl, rfl⟩ := hd
    have hlen : vals.length = all.size := by
      have := congrArg List.length hl
      simp at this; omega
    exact ⟨ls, ⟨[], by simp⟩, ⟨[], by simp⟩, hlen, ⟨[], rfl, by simp⟩, ⟨[], rfl, by simp⟩, hfA, hfo, hc, ht, fun j o hj ho => by
      have := (Array.getElem?_eq_some_iff.1 ho).1
      omega⟩
  | o :: r, vals, fl, ws, ls, vals', F, W, hd, hl, hle, hll, hk, hfk, hfo, hwf, hc, ht => by
    have hjs : all[vals.length]? = some o := by
      have h1 : (all.toList.drop vals.length)[0]? = some o := by rw [hl]; rfl
      simpa using h1
    have hlt := (Array.getElem?_eq_some_iff.1 hjs).1
    have hr : all.toList.drop (vals.length + 1) = r := by rw [← List.drop_drop, hl]; rfl
    simp only [doOpsD] at hd
    split at hd
    case isFalse => cases hd
    rename_i hedges
    have hedge : ∀ e ∈ o.after, Region.binds .any e = true → e.on < vals.length := by
      intro e he hb
      have := List.all_eq_true.1 hedges e (by simpa using he)
      simpa [hb] using this
    have hwlt : ∀ k, waitsFor o k = true → k < vals.length := by
      intro k hk
      obtain ⟨e, he, hb⟩ := List.any_eq_true.1 hk
      simp at hb
      have := hedge e (by simpa using he) hb.1
      omega
    have henv : ∀ x : Vals, envD all.toList env0 (vals ++ x) o = envD all.toList env0 vals o := by
      intro x
      unfold envD
      congr 1
      apply entries_congr
      intro e he hb
      rw [List.getElem?_append_left (hedge e (by simpa using he) hb)]
    -- the boxes told are those of the whole
    have hfill : ∀ fpre : FL, (∀ f ∈ fpre, vals.length ≤ f.1) → fillH (waitsFor o) (base0 h0 A) (fpre ++ fl) = fillH (waitsFor o) (base0 h0 A) fl := by
      intro fpre
      induction fpre with
      | nil => intro _; rfl
      | cons f r ih =>
        intro h
        obtain ⟨j, i, cs⟩ := f
        have hj := h (j, i, cs) (List.mem_cons_self ..)
        simp only [List.cons_append, fillH]
        rw [if_neg, ih fun f hf => h f (List.mem_cons_of_mem _ hf)]
        intro hw
        have := hwlt j hw
        simp only at hj
        omega
    -- what is late stays so
    have hlate : ∀ (add : WS) (x : Option Nat), Late all (ls ++ [x]) (add ++ ws) ws := by
      intro add x y hy b hb
      obtain ⟨o', h1, h2⟩ := ht y hy b hb
      refine ⟨o', h1, fun i hi => ?_⟩
      rcases h2 i hi with h | h | h | h | h
      · exact .inl h
      · exact .inr (.inl h)
      · exact .inr (.inr (.inl (isW_append h)))
      · exact .inr (.inr (.inr (.inl (by rw [ldAt_app (by have := hk y hy; omega)]; exact h))))
      · exact .inr (.inr (.inr (.inr h)))
    have finish : ∀ (v : Option SV) (fl1 fadd : FL) (ws1 add : WS) (z : Option Nat), fl1 = fadd ++ fl → ws1 = add ++ ws → doOpsD T O g all env0 h0 A r (vals ++ [o.dst.map (·, v)]) fl1 ws1 (ls ++ [z]) = some (vals', F, W) →
        (∀ x ∈ add, x.1 = vals.length) → (∀ f ∈ fadd, f.1 = vals.length) → FlOk h0 A fl1 → (ws1 ≠ [] → fl1.length = A) → Chain (fullH h0 A fl1) ws1 → Late all (ls ++ [z]) ws1 ws1 →
        (∀ (x : Vals) (pre : WS) (fpre : FL) (L : Lds), vals' = vals ++ [o.dst.map (·, v)] ++ x → W = pre ++ ws1 → (∀ y ∈ pre, vals.length < y.1) → F = fpre ++ fl1 → (∀ f ∈ fpre, vals.length < f.1) → F.length = A → ldAt L vals.length = z → Sp T O g all env0 h0 A vals' F W L vals.length o) →
        ∃ L : Lds, (∃ r, L = ls ++ r) ∧ (∃ r, vals' = vals ++ r) ∧ vals'.length = all.size ∧ (∃ pre, W = pre ++ ws ∧ ∀ x ∈ pre, vals.length ≤ x.1 ∧ x.1 < all.size) ∧ (∃ pre, F = pre ++ fl ∧ ∀ f ∈ pre, vals.length ≤ f.1 ∧ f.1 < all.size) ∧ F.length = A ∧ FlOk h0 A F ∧
        Chain (fullH h0 A F) W ∧ Late all L W W ∧ ∀ j o, vals.length ≤ j → all[j]? = some o → Sp T O g all env0 h0 A vals' F W L j o := by
      intro v fl1 fadd ws1 add z hfadd hadd h1 hkeys hfkeys hfo1 hwf1 hc1 ht1 hsp
      obtain ⟨L, ⟨lr, hlr⟩, ⟨x, hx⟩, k2, ⟨pre, k3, k3'⟩, ⟨fpre, k4, k4'⟩, k5, k6, k7, k8, k9⟩ := doOpsD_spec r (vals ++ [o.dst.map (·, v)]) fl1 ws1 (ls ++ [z]) vals' F W h1 (by simpa using hr) (by simp; omega) (by simp [hll]) (by
        intro y hy
        rw [hadd] at hy
        rcases List.mem_append.1 hy with h | h
        · have := hkeys y h; simp; omega
        · have := hk y h; simp; omega) (by
        intro y hy
        rw [hfadd] at hy
        rcases List.mem_append.1 hy with h | h
        · have := hfkeys y h; simp; omega
        · have := hfk y h; simp; omega) hfo1 hwf1 hc1 ht1
      simp only [List.length_append, List.length_cons, List.length_nil, Nat.zero_add] at k3' k4' k9
      refine ⟨L, ⟨[z] ++ lr, by simpa using hlr⟩, ⟨[o.dst.map (·, v)] ++ x, by simpa using hx⟩, k2, ⟨pre ++ add, by rw [k3, hadd, List.append_assoc], ?_⟩, ⟨fpre ++ fadd, by rw [k4, hfadd, List.append_assoc], ?_⟩, k5, k6, k7, k8, ?_⟩
      · intro y hy
        rcases List.mem_append.1 hy with h | h
        · have := k3' y h; omega
        · have := hkeys y h; omega
      · intro y hy
        rcases List.mem_append.1 hy with h | h
        · have := k4' y h; omega
        · have := hfkeys y h; omega
      · intro j o' hj ho'
        by_cases e : j = vals.length
        · subst e
          rw [hjs] at ho'
          obtain rfl := Option.some.inj ho'
          refine hsp x pre fpre L hx k3 (fun y hy => by have := k3' y hy; omega) k4 (fun y hy => by have := k4' y hy; omega) k5 ?_
          rw [hlr, ldAt_app (by simp [hll])]
          unfold ldAt
          rw [← hll]; simp
        · exact k9 j o' (by omega) ho'
    split at hd
    case h_3 => cases hd
    case h_2 =>
      rename_i hgo
      split at hd
      · cases hd
      · refine finish (some (.tup [])) fl [] ws [] none rfl rfl hd (by simp) (by simp) hfo hwf hc (hlate [] none) ?_
        intro x pre fpre L hx hW hpre hF hfpre hFA hL
        refine ⟨_, by rw [hx]; simp, hedge, .inl ⟨by rw [hx, List.append_assoc, henv]; exact hgo, rfl, ?_, ?_⟩⟩
        · intro y hy
          rw [hW] at hy
          rcases List.mem_append.1 hy with h | h
          · have := hpre y h; omega
          · have := hk y h; omega
        · intro f hf
          rw [hF] at hf
          rcases List.mem_append.1 hf with h | h
          · have := hfpre f h; omega
          · have := hfk f h; omega
    case h_1 =>
      rename_i hgo
      split at hd
      · -- made in any order
        rename_i hfree
        split at hd
        case isFalse => cases hd
        rename_i hc0
        obtain ⟨hws0, hflA⟩ := hc0
        subst hws0
        split at hd
        · rename_i v h' hop
          split at hd
          · rename_i cs hcs
            refine finish v _ [(vals.length, h0.length + fl.length, cs)] [] [] none rfl rfl hd (by simp) (by simp) ⟨rfl, hflA, hfk, hfo⟩ (by simp) trivial (fun x hx => by cases hx) ?_
            intro x pre fpre L hx hW hpre hF hfpre hFA hL
            refine ⟨v, by rw [hx]; simp, hedge, .inr ⟨by rw [hx, List.append_assoc, henv]; exact hgo, .inl ⟨hfree, ?_, fl.length, cs, h', ?_, ?_, hcs⟩⟩⟩
            · intro y hy
              rw [hW, List.append_nil] at hy
              have := hpre y hy
              omega
            · rw [hF]; simp
            · rw [hx, List.append_assoc, henv]; exact hop
          · cases hd
        · cases hd
      · split at hd
        case isFalse => cases hd
        rename_i hnf hokN
        have notF : ∀ fpre : FL, (∀ f ∈ fpre, vals.length < f.1) → ∀ f ∈ fpre ++ fl, f.1 ≠ vals.length := by
          intro fpre h f hf
          rcases List.mem_append.1 hf with h1 | h1
          · have := h f h1; omega
          · have := hfk f h1; omega
        split at hd
        case h_2 => cases hd
        rename_i v h' hop
        have hbase : h0 ++ List.replicate A [] = base0 h0 A := rfl
        rw [hbase] at hop
        have allF : ∀ fpre : FL, (fpre ++ fl).length = A → fl.length = A → fpre = [] := by
          intro fpre h1 h2
          rw [List.length_append] at h1
          exact List.eq_nil_of_length_eq_zero (by omega)
        split at hd
        · -- it turns boxes
          rename_i b hb
          split at hd
          case isFalse => cases hd
          rename_i hw
          obtain ⟨hw1, hw2, hw3, hw4⟩ := hw
          have hfull : heapN (fillH (waitsFor o) (base0 h0 A) fl) o ws = headH (fullH h0 A fl) ws := by
            rw [heapN_head hw1]
            have : fillH (waitsFor o) (base0 h0 A) fl = fullH h0 A fl := fill_congr' fun f hf => waitsFl_all hw2 f hf
            rw [this]
          refine finish v fl [] _ [(vals.length, some b, h')] none rfl rfl hd (by simp) (by simp) hfo (fun _ => hw3) ⟨?_, hc⟩ ?_ ?_
          · cases b with
            | none => trivial
            | some b =>
              have := store_box hb hop
              rw [hfull] at this
              exact this
          · intro y hy b' hys
            rcases List.mem_cons.1 hy with rfl | hy
            · simp at hys
              subst hys
              refine ⟨o, hjs, fun i hi => ?_⟩
              have := List.all_eq_true.1 hw4 i (List.mem_range.2 hi)
              simp only [Bool.or_eq_true] at this
              rcases this with (((h | h) | h) | h) | h
              · exact .inl h
              · exact .inr (.inl h)
              · exact .inr (.inr (.inl (isW_append (A := [_]) h)))
              · exact .inr (.inr (.inr (.inl (by rw [ldAt_app (by simp at hi; omega)]; exact h))))
              · exact .inr (.inr (.inr (.inr h)))
            · exact hlate [_] none y hy b' hys
          · intro x pre fpre L hx hW hpre hF hfpre hFA _
            have hf0 := allF fpre (by rw [← hF]; exact hFA) hw3
            subst hf0
            rw [List.nil_append] at hF
            subst hF
            refine ⟨v, by rw [hx]; simp, hedge, .inr ⟨by rw [hx, List.append_assoc, henv]; exact hgo, .inr ⟨notF [] (by simp), ws, pre ++ [(vals.length, some b, h')], by rw [hW]; simp, ?_, hk, .inr ⟨hw1, waitsFl_all hw2, pre, _, h', rfl, hpre, ?_⟩⟩⟩⟩
            · rw [hx, List.append_assoc, henv]; exact hokN
            · rw [hx, List.append_assoc, henv]; exact hop
        · rename_i hb
          obtain ⟨n, hn⟩ := doOp_len hb hop
          split at hd
          · rename_i hlen
            have hn0 : n = [] := by
              rw [hbase] at hlen
              rw [hn] at hlen; simpa using hlen
            subst hn0
            rw [List.append_nil] at hn
            subst hn
            refine finish v fl [] ws [] _ rfl rfl hd (by simp) (by simp) hfo hwf hc (hlate [] _) ?_
            intro x pre fpre L hx hW hpre hF hfpre hFA hL
            refine ⟨v, by rw [hx]; simp, hedge, .inr ⟨by rw [hx, List.append_assoc, henv]; exact hgo, .inr ⟨by rw [hF]; exact notF fpre hfpre, ws, pre, hW, ?_, hk, .inl ⟨?_, hpre, ?_, ?_⟩⟩⟩⟩
            · rw [hx, List.append_assoc, henv]; exact hokN
            · rw [hx, List.append_assoc, henv]; exact hb
            · rw [hx, List.append_assoc, henv]; exact hL
            · rw [hx, List.append_assoc, henv, hF, hfill fpre (fun f hf => by have := hfpre f hf; omega)]; exact hop
          · split at hd
            case isFalse => cases hd
            rename_i hw
            obtain ⟨hw1, hw2, hw3⟩ := hw
            have hfull : heapN (fillH (waitsFor o) (base0 h0 A) fl) o ws = headH (fullH h0 A fl) ws := by
              rw [heapN_head hw1]
              have : fillH (waitsFor o) (base0 h0 A) fl = fullH h0 A fl := fill_congr' fun f hf => waitsFl_all hw2 f hf
              rw [this]
            refine finish v fl [] _ [(vals.length, none, h')] none rfl rfl hd (by simp) (by simp) hfo (fun _ => hw3) ⟨⟨n, by rw [hfull] at hn; exact hn⟩, hc⟩ ?_ ?_
            · intro y hy b' hys
              rcases List.mem_cons.1 hy with rfl | hy
              · cases hys
              · exact hlate [_] none y hy b' hys
            · intro x pre fpre L hx hW hpre hF hfpre hFA _
              have hf0 := allF fpre (by rw [← hF]; exact hFA) hw3
              subst hf0
              rw [List.nil_append] at hF
              subst hF
              refine ⟨v, by rw [hx]; simp, hedge, .inr ⟨by rw [hx, List.append_assoc, henv]; exact hgo, .inr ⟨notF [] (by simp), ws, pre ++ [(vals.length, none, h')], by rw [hW]; simp, ?_, hk, .inr ⟨hw1, waitsFl_all hw2, pre, _, h', rfl, hpre, ?_⟩⟩⟩⟩
              · rw [hx, List.append_assoc, henv]; exact hokN
              · rw [hx, List.append_assoc, henv]; exact hop
end
end Go.Proofs.YtcnapkdccjibpaaGreatDoor.Eng
