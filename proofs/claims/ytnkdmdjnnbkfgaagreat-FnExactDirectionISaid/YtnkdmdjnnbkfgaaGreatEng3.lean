/- What the evaluator says of one operation holds of the model's run. -/
import Derived.Test.YtnkdmdjnnbkfgaaGreatEng2
import Derived.Laws.CopyOwn
namespace Go.Proofs.YtnkdmdjnnbkfgaaGreat.Eng
open Go Go.RowKit
set_option linter.unusedVariables false
set_option linter.unusedSimpArgs false

section
variable {P : Program} {w0 w : World} {ρ : List Nat} {h : Heap}

theorem HR.lt (H : HR w0 ρ h w) {i : Nat} (hi : i < h.length) : ρ.getD i 0 < w.heap.size ∧ w0.heap.size ≤ ρ.getD i 0 := by
  have hi' : i < ρ.length := by rw [H.len]; exact hi
  obtain ⟨e, he⟩ := H.cell i h[i] (by simp [hi])
  refine ⟨(Array.getElem?_eq_some_iff.1 he).1, H.own _ ?_⟩
  simp [List.getD, hi']

theorem HR.lt_of_mem (H : HR w0 ρ h w) {b : Nat} (hb : b ∈ ρ) : b < w.heap.size := by
  obtain ⟨i, hi, rfl⟩ := List.getElem_of_mem hb
  have := (H.lt (i := i) (by rw [← H.len]; exact hi)).1
  simpa [List.getD, hi] using this

theorem HR.push (H : HR w0 ρ h w) (cs : List PC) (e : TypeId) : HR w0 (ρ ++ [w.heap.size]) (h ++ [cs]) (w.alloc (.cells (cs.map PC.conc).toArray e)) where
  len := by simp [H.len]
  cell i ds hi := by
    by_cases hlt : i < h.length
    · rw [List.getElem?_append_left hlt] at hi
      obtain ⟨e', he⟩ := H.cell i ds hi
      refine ⟨e', ?_⟩
      rw [getD_left (by rw [H.len]; exact hlt), Below.heap_alloc _ _ _ (H.lt hlt).1]
      exact he
    · have hi2 : i = h.length := by
        have h1 : i < (h ++ [cs]).length := (List.getElem?_eq_some_iff.1 hi).1
        simp at h1; omega
      subst hi2
      simp at hi
      subst hi
      refine ⟨e, ?_⟩
      have : (ρ ++ [w.heap.size]).getD h.length 0 = w.heap.size := by simp [List.getD, ← H.len]
      rw [this]
      show (w.heap.push _)[w.heap.size]? = _
      exact Array.getElem?_push_size
  nodup := by
    rw [List.nodup_append]
    refine ⟨H.nodup, by simp, ?_⟩
    intro a ha b hb
    simp at hb
    subst hb
    exact Nat.ne_of_lt (H.lt_of_mem ha)
  own b hb := by
    simp at hb
    rcases hb with hb | rfl
    · exact H.own b hb
    · exact H.below.size
  below := H.below.alloc H.below.size _

theorem HR.drew (H : HR w0 ρ h w) : HR w0 ρ h { w with drawn := w.drawn + 1 } := ⟨H.len, H.cell, H.nodup, H.own, H.below.trans ⟨rfl, rfl, rfl, Nat.le_refl _, fun _ _ => rfl⟩⟩

theorem HR.set (H : HR w0 ρ h w) {i : Nat} {cs new : List PC} (hi : h[i]? = some cs) : HR w0 ρ (h.set i new) (w.setRow (ρ.getD i 0) (new.map PC.conc).toArray) where
  len := by simp [H.len]
  cell j ds hj := by
    have hil : i < h.length := (List.getElem?_eq_some_iff.1 hi).1
    by_cases hij : i = j
    · subst hij
      simp [hil] at hj
      subst hj
      obtain ⟨e, he⟩ := H.cell i cs hi
      exact ⟨e, setRow_heap w _ _ _ _ _ he⟩
    · rw [List.getElem?_set_ne hij] at hj
      obtain ⟨e, he⟩ := H.cell j ds hj
      refine ⟨e, ?_⟩
      have hjl : j < h.length := (List.getElem?_eq_some_iff.1 hj).1
      rw [setRow_other]
      · exact he
      · intro heq
        have hi' : i < ρ.length := by rw [H.len]; exact hil
        have hj' : j < ρ.length := by rw [H.len]; exact hjl
        simp only [List.getD, List.getElem?_eq_getElem hi', List.getElem?_eq_getElem hj', Option.getD_some] at heq
        exact hij ((List.getElem_inj H.nodup).1 heq.symm)
  nodup := H.nodup
  own := H.own
  below := below_setRow H.below (H.lt (List.getElem?_eq_some_iff.1 hi).1).2 _

/-- Behind a call: the callee's new boxes come behind the own ones. -/
theorem HR.called {w' : World} {σ : List Nat} {new : Heap} (H : HR w0 ρ h w) (K : HR w σ new w') : HR w0 (ρ ++ σ) (h ++ new) w' where
  len := by simp [H.len, K.len]
  cell i ds hi := by
    by_cases hlt : i < h.length
    · rw [List.getElem?_append_left hlt] at hi
      obtain ⟨e, he⟩ := H.cell i ds hi
      refine ⟨e, ?_⟩
      rw [getD_left (by rw [H.len]; exact hlt), K.below.block _ (H.lt hlt).1]
      exact he
    · rw [List.getElem?_append_right (Nat.le_of_not_lt hlt)] at hi
      obtain ⟨e, he⟩ := K.cell _ ds hi
      refine ⟨e, ?_⟩
      have hle : ρ.length ≤ i := by rw [H.len]; exact Nat.le_of_not_lt hlt
      have : (ρ ++ σ).getD i 0 = σ.getD (i - h.length) 0 := by simp [List.getD, List.getElem?_append_right hle, H.len]
      rw [this]
      exact he
  nodup := by
    rw [List.nodup_append]
    refine ⟨H.nodup, K.nodup, ?_⟩
    intro a ha b hb hab
    subst hab
    exact absurd (H.lt_of_mem ha) (Nat.not_lt.2 (K.own _ hb))
  own b hb := by
    rcases List.mem_append.1 hb with hb | hb
    · exact H.own b hb
    · exact Nat.le_trans H.below.size (K.own b hb)
  below := H.below.trans (K.below.mono H.below.size)

theorem HR.start (w : World) : HR w [] [] w := ⟨rfl, fun i cs hi => by simp at hi, by simp, by simp, Below.refl _ _⟩

theorem own_cell (H : HR w0 ρ h w) {i o : Nat} {cs : List PC} {c : PC} (hi : h[i]? = some cs) (ho : cs[o]? = some c) : w.cell? ⟨ρ.getD i 0, o, none⟩ = some c.conc := by
  obtain ⟨e, he⟩ := H.cell i cs hi
  simp only [World.cell?, he]
  simp [ho]

theorem loadCell_ok {G : List Addr} {g : List PC} (H : HR w0 ρ h w) (hG : GR G g w0) {q : Pt} {c : PC} (hq : loadCell h g q = some c) :
    w.cell? (q.addr ρ G) = some c.conc ∧ (q.addr ρ G).block < w.heap.size := by
  cases q with
  | own i o =>
    simp only [loadCell, Option.bind_eq_some_iff] at hq
    obtain ⟨cs, hi, ho⟩ := hq
    exact ⟨own_cell H hi ho, (H.lt (List.getElem?_eq_some_iff.1 hi).1).1⟩
  | giv j =>
    obtain ⟨h1, h2⟩ := (hG.later H.below).cell j c hq
    exact ⟨h1, h2⟩

/-- Own pointers and given ones, told to the callee as given cells. -/
theorem trPts_ok {G : List Addr} {g : List PC} (H : HR w0 ρ h w) (hG : GR G g w0) : ∀ (qs : List Pt) (acc : List PC) (A : List Addr) (qs' : List Pt) (acc' : List PC),
    trPts h g acc qs = some (qs', acc') → A.length = acc.length → GR A acc w →
    ∃ B, (∀ C, qs'.map (Pt.conc [] (A ++ B ++ C)) = qs.map (Pt.conc ρ G)) ∧ (A ++ B).length = acc'.length ∧ GR (A ++ B) acc' w ∧ ∀ q ∈ qs', q.wf 0
  | [], acc, A, qs', acc', ht, hl, hA => by
    simp [trPts] at ht
    obtain ⟨rfl, rfl⟩ := ht
    exact ⟨[], by simp, by simpa using hl, by simpa using hA, by simp⟩
  | q :: r, acc, A, qs', acc', ht, hl, hA => by
    simp only [trPts] at ht
    split at ht
    · rename_i c hc
      split at ht
      · rename_i qs2 acc2 h2
        simp at ht
        obtain ⟨rfl, rfl⟩ := ht
        have hc' := loadCell_ok H hG hc
        have hA2 : GR (A ++ [q.addr ρ G]) (acc ++ [c]) w := by
          refine ⟨fun j d hj => ?_⟩
          by_cases hlt : j < acc.length
          · rw [List.getElem?_append_left hlt] at hj
            have := hA.cell j d hj
            have hd : (A ++ [q.addr ρ G]).getD j default = A.getD j default := by simp [List.getD, List.getElem?_append_left (show j < A.length by omega)]
            rw [hd]; exact this
          · have hj2 : j = acc.length := by
              have h1 : j < (acc ++ [c]).length := (List.getElem?_eq_some_iff.1 hj).1
              simp at h1; omega
            subst hj2
            simp at hj
            subst hj
            have hd : (A ++ [q.addr ρ G]).getD acc.length default = q.addr ρ G := by simp [List.getD, ← hl]
            rw [hd]; exact hc'
        obtain ⟨B, hB1, hB2, hB3, hB4⟩ := trPts_ok H hG r (acc ++ [c]) (A ++ [q.addr ρ G]) qs2 acc2 h2 (by simp [hl]) hA2
        refine ⟨q.addr ρ G :: B, ?_, ?_, ?_, ?_⟩
        · intro C
          have := hB1 C
          simp only [List.append_assoc, List.singleton_append, List.cons_append] at this ⊢
          simp only [List.map_cons, this]
          congr 1
          simp [Pt.conc, Pt.addr, List.getD, ← hl]
        · simpa using hB2
        · simpa using hB3
        · intro q' hq'
          rcases List.mem_cons.1 hq' with rfl | hq'
          · trivial
          · exact hB4 q' hq'
      · cases ht
    · cases ht

theorem trArgs_ok {G : List Addr} {g : List PC} (H : HR w0 ρ h w) (hG : GR G g w0) : ∀ (xs : List AV) (acc : List PC) (A : List Addr) (ys : List AV) (acc' : List PC),
    trArgs h g acc xs = some (ys, acc') → A.length = acc.length → GR A acc w →
    ∃ B, (∀ C, ys.map (AV.conc [] (A ++ B ++ C)) = xs.map (AV.conc ρ G)) ∧ (A ++ B).length = acc'.length ∧ GR (A ++ B) acc' w ∧ ∀ y ∈ ys, y.wf 0
  | [], acc, A, ys, acc', ht, hl, hA => by
    simp [trArgs] at ht
    obtain ⟨rfl, rfl⟩ := ht
    exact ⟨[], by simp, by simpa using hl, by simpa using hA, by simp⟩
  | .agg zs :: r, acc, A, ys, acc', ht, hl, hA => by
    simp only [trArgs] at ht
    split at ht
    · rename_i l a h2
      simp at ht
      obtain ⟨rfl, rfl⟩ := ht
      obtain ⟨B, h1, h2, h3, h4⟩ := trArgs_ok H hG r acc A l a h2 hl hA
      refine ⟨B, fun C => by simp only [List.map_cons, h1 C, AV.conc], h2, h3, ?_⟩
      intro y hy
      rcases List.mem_cons.1 hy with rfl | hy
      · trivial
      · exact h4 y hy
    · cases ht
  | .c (.p z) :: r, acc, A, ys, acc', ht, hl, hA => by
    simp only [trArgs] at ht
    split at ht
    · rename_i l a h2
      simp at ht
      obtain ⟨rfl, rfl⟩ := ht
      obtain ⟨B, h1, h2, h3, h4⟩ := trArgs_ok H hG r acc A l a h2 hl hA
      refine ⟨B, fun C => by simp only [List.map_cons, h1 C, AV.conc, Cl.conc], h2, h3, ?_⟩
      intro y hy
      rcases List.mem_cons.1 hy with rfl | hy
      · trivial
      · exact h4 y hy
    · cases ht
  | .c (.clo f caps) :: r, acc, A, ys, acc', ht, hl, hA => by
    simp only [trArgs] at ht
    split at ht
    · rename_i qs a1 hq
      split at ht
      · rename_i l a h2
        simp at ht
        obtain ⟨rfl, rfl⟩ := ht
        obtain ⟨B1, k1, k2, k3, k4⟩ := trPts_ok H hG caps acc A qs a1 hq hl hA
        obtain ⟨B, h1, h2, h3, h4⟩ := trArgs_ok H hG r a1 (A ++ B1) l a h2 k2 k3
        refine ⟨B1 ++ B, fun C => ?_, by simpa using h2, by simpa using h3, ?_⟩
        · have e1 := h1 C
          have e2 := k1 (B ++ C)
          simp only [List.append_assoc] at e1 e2 ⊢
          simp only [List.map_cons, e1, AV.conc, Cl.conc, e2]
        · intro y hy
          rcases List.mem_cons.1 hy with rfl | hy
          · exact k4
          · exact h4 y hy
      · cases ht
    · cases ht
  | .c (.ptr q) :: r, acc, A, ys, acc', ht, hl, hA => by
    simp only [trArgs] at ht
    split at ht
    · rename_i qs a1 hq
      split at ht
      · rename_i l a h2
        simp at ht
        obtain ⟨rfl, rfl⟩ := ht
        obtain ⟨B1, k1, k2, k3, k4⟩ := trPts_ok H hG [q] acc A qs a1 hq hl hA
        obtain ⟨B, h1, h2, h3, h4⟩ := trArgs_ok H hG r a1 (A ++ B1) l a h2 k2 k3
        refine ⟨B1 ++ B, fun C => ?_, by simpa using h2, by simpa using h3, ?_⟩
        · have e1 := h1 C
          have e2 := k1 (B ++ C)
          simp only [List.append_assoc] at e1 e2 ⊢
          simp only [List.map_append, List.map_map, e1, List.map_cons]
          have : qs.map (AV.conc [] (A ++ (B1 ++ (B ++ C))) ∘ fun q => AV.c (Cl.ptr q)) = qs.map (Pt.conc [] (A ++ (B1 ++ (B ++ C)))) := rfl
          rw [this, e2]
          simp [AV.conc, Cl.conc]
        · intro y hy
          rcases List.mem_append.1 hy with hy | hy
          · obtain ⟨q', hq', rfl⟩ := List.mem_map.1 hy
            exact k4 q' hq'
          · exact h4 y hy
      · cases ht
    · cases ht
  | .c (.row i n) :: r, acc, A, ys, acc', ht, hl, hA => by simp [trArgs] at ht

theorem SV.up_zero_conc (r : SV) (σ : List Nat) (G : List Addr) : (r.up 0).conc σ G = r.conc σ G := by
  have hp : ∀ q : Pt, (q.up 0) = q := fun q => by cases q <;> simp [Pt.up]
  have ha : ∀ x : AV, x.up 0 = x := fun x => by
    cases x with
    | agg xs => rfl
    | c x =>
      cases x with
      | p x => rfl
      | ptr q => simp [AV.up, Cl.up, hp]
      | clo f caps => simp only [AV.up, Cl.up]; congr 2; rw [show (Pt.up 0) = id from funext hp]; simp
      | row i n => simp [AV.up, Cl.up]
  cases r with
  | v x => simp [SV.up, ha]
  | tup xs => simp only [SV.up, SV.conc, List.map_map]; congr 3; funext x; simp [ha]

theorem getD_right {ρ σ : List Nat} {i : Nat} : (ρ ++ σ).getD (ρ.length + i) 0 = σ.getD i 0 := by
  simp [List.getD, List.getElem?_append_right (Nat.le_add_right ρ.length i)]

end
end Go.Proofs.YtnkdmdjnnbkfgaaGreat.Eng
