/- What the evaluator says of one operation holds of the model's run. -/
import Derived.Test.YtcnapkdccjibpaaGreatDoorEng2
import Derived.Laws.CopyOwn
namespace Go.Proofs.YtcnapkdccjibpaaGreatDoor.Eng
open Go Go.RowKit
set_option linter.unusedVariables false
set_option linter.unusedSimpArgs false

section
variable {P : Program} {w0 w : World} {ρ : List Blk} {h : Heap}

theorem full_of {i : Nat} {cs : List PC} (hi : h[i]? = some cs) (hne : cs ≠ []) : full h i := by simp [full, hi, hne]
theorem full_get {i : Nat} (hf : full h i) : ∃ cs, h[i]? = some cs ∧ cs ≠ [] := by
  unfold full at hf
  cases hi : h[i]? with
  | none => rw [hi] at hf; simp at hf
  | some cs => rw [hi] at hf; exact ⟨cs, rfl, by simpa using hf⟩

theorem HR.lt (H : HR w0 ρ h w) {i : Nat} {cs : List PC} (hi : h[i]? = some cs) (hne : cs ≠ []) : (blk ρ i).b < w.heap.size ∧ w0.heap.size ≤ (blk ρ i).b := by
  obtain ⟨_, h2, e, ex, he, _⟩ := H.cell i cs hi hne
  exact ⟨(Array.getElem?_eq_some_iff.1 he).1, h2⟩

theorem HR.ok (H : HR w0 ρ h w) {i : Nat} (hf : full h i) : (blk ρ i).ok = true := by
  obtain ⟨cs, hi, hne⟩ := full_get hf
  exact (H.cell i cs hi hne).1

theorem HR.pushF (H : HR w0 ρ h w) (cs : List PC) (ex : List Value) (e : TypeId) (f : Nat × Nat) (hf : f = (0, 0) ∨ cs.length + ex.length ≤ f.1) : HR w0 (ρ ++ [⟨w.heap.size, cs.length + ex.length, true⟩]) (h ++ [cs]) (w.alloc (.cells (cs.map PC.conc ++ ex).toArray e f)) where
  len := by simp [H.len]
  cell i ds hi hne := by
    by_cases hlt : i < h.length
    · rw [List.getElem?_append_left hlt] at hi
      obtain ⟨h1, h2, e', ex', he, hk⟩ := H.cell i ds hi hne
      rw [blk_left (by rw [H.len]; exact hlt)]
      refine ⟨h1, h2, e', ex', ?_, hk⟩
      rw [Below.heap_alloc _ _ _ (H.lt hi hne).1]
      exact he
    · have hi2 : i = h.length := by
        have h1 : i < (h ++ [cs]).length := (List.getElem?_eq_some_iff.1 hi).1
        simp at h1; omega
      subst hi2
      simp at hi
      subst hi
      have hb : blk (ρ ++ [⟨w.heap.size, cs.length + ex.length, true⟩]) h.length = ⟨w.heap.size, cs.length + ex.length, true⟩ := by simp [blk, List.getD, ← H.len]
      rw [hb]
      refine ⟨rfl, H.below.size, ⟨e, f, hf⟩, ex, ?_, rfl⟩
      show (w.heap.push _)[w.heap.size]? = _
      exact Array.getElem?_push_size
  apart i j ci cj hij hi hj hni hnj := by
    have key : ∀ (k : Nat) (ck : List PC), k < h.length → (h ++ [cs])[k]? = some ck → ck ≠ [] → (blk (ρ ++ [⟨w.heap.size, cs.length + ex.length, true⟩]) k).b = (blk ρ k).b ∧ (blk ρ k).b < w.heap.size ∧ h[k]? = some ck := by
      intro k ck hk hc hn
      rw [List.getElem?_append_left hk] at hc
      exact ⟨by rw [blk_left (by rw [H.len]; exact hk)], (H.lt hc hn).1, hc⟩
    have hnew : blk (ρ ++ [⟨w.heap.size, cs.length + ex.length, true⟩]) h.length = ⟨w.heap.size, cs.length + ex.length, true⟩ := by simp [blk, List.getD, ← H.len]
    have li : i < (h ++ [cs]).length := (List.getElem?_eq_some_iff.1 hi).1
    have lj : j < (h ++ [cs]).length := (List.getElem?_eq_some_iff.1 hj).1
    simp at li lj
    by_cases e1 : i < h.length
    · obtain ⟨a1, a2, a3⟩ := key i ci e1 hi hni
      by_cases e2 : j < h.length
      · obtain ⟨b1, b2, b3⟩ := key j cj e2 hj hnj
        rw [a1, b1]; exact H.apart i j ci cj hij a3 b3 hni hnj
      · have : j = h.length := by omega
        subst this
        rw [a1, hnew]; exact Nat.ne_of_lt a2
    · have : i = h.length := by omega
      subst this
      have e2 : j < h.length := by omega
      obtain ⟨b1, b2, b3⟩ := key j cj e2 hj hnj
      rw [b1, hnew]; exact Ne.symm (Nat.ne_of_lt b2)
  below := H.below.alloc H.below.size _

theorem HR.push (H : HR w0 ρ h w) (cs : List PC) (ex : List Value) (e : TypeId) : HR w0 (ρ ++ [⟨w.heap.size, cs.length + ex.length, true⟩]) (h ++ [cs]) (w.alloc (.cells (cs.map PC.conc ++ ex).toArray e)) := H.pushF cs ex e (0, 0) (.inl rfl)
theorem HR.push0 (H : HR w0 ρ h w) (cs : List PC) (e : TypeId) : HR w0 (ρ ++ [⟨w.heap.size, cs.length, true⟩]) (h ++ [cs]) (w.alloc (.cells (cs.map PC.conc).toArray e)) := by
  have := H.push cs [] e
  simpa using this

theorem HR.drew (H : HR w0 ρ h w) : HR w0 ρ h { w with drawn := w.drawn + 1 } := ⟨H.len, H.cell, H.apart, H.below.trans ⟨rfl, rfl, rfl, Nat.le_refl _, fun _ _ => rfl⟩⟩

/-- A store into a box. -/
theorem HR.set (H : HR w0 ρ h w) {i : Nat} {cs new : List PC} (hi : h[i]? = some cs) (hne : cs ≠ []) {e : TF (blk ρ i).k} {ex : List Value} (he : w.heap[(blk ρ i).b]? = some (.cells (cs.map PC.conc ++ ex).toArray e.t e.f)) (hl : new.length = cs.length) :
    HR w0 ρ (h.set i new) (w.setRow (blk ρ i).b (new.map PC.conc ++ ex).toArray) where
  len := by simp [H.len]
  cell j ds hj hd := by
    have hil : i < h.length := (List.getElem?_eq_some_iff.1 hi).1
    obtain ⟨h1, h2, e1, ex1, he1, hk1⟩ := H.cell i cs hi hne
    by_cases hij : i = j
    · subst hij
      simp [hil] at hj
      subst hj
      refine ⟨h1, h2, e, ex, setRow_heap w _ _ _ _ _ he, ?_⟩
      rw [he] at he1
      simp at he1
      rw [hl, he1.1]; exact hk1
    · rw [List.getElem?_set_ne hij] at hj
      obtain ⟨h1', h2', e', ex', he', hk'⟩ := H.cell j ds hj hd
      refine ⟨h1', h2', e', ex', ?_, hk'⟩
      rw [setRow_other]
      · exact he'
      · exact fun heq => H.apart i j cs ds hij hi hj hne hd heq.symm
  apart j k cj ck hjk hj hk hnj hnk := by
    have key : ∀ (m : Nat) (cm : List PC), (h.set i new)[m]? = some cm → cm ≠ [] → ∃ c0, h[m]? = some c0 ∧ c0 ≠ [] := by
      intro m cm hm hn
      by_cases e : i = m
      · subst e; exact ⟨cs, hi, hne⟩
      · rw [List.getElem?_set_ne e] at hm; exact ⟨cm, hm, hn⟩
    obtain ⟨c1, k1, k2⟩ := key j cj hj hnj
    obtain ⟨c2, k3, k4⟩ := key k ck hk hnk
    exact H.apart j k c1 c2 hjk k1 k3 k2 k4
  below := below_setRow H.below (H.lt hi hne).2 _

/-- A box that says no more. -/
theorem HR.kill (H : HR w0 ρ h w) (i : Nat) : HR w0 ρ (h.set i []) w where
  len := by simp [H.len]
  cell j ds hj hd := by
    by_cases hij : i = j
    · subst hij
      have hil : i < (h.set i []).length := (List.getElem?_eq_some_iff.1 hj).1
      simp at hil
      simp [hil] at hj
      exact absurd hj hd
    · rw [List.getElem?_set_ne hij] at hj; exact H.cell j ds hj hd
  apart j k cj ck hjk hj hk hnj hnk := by
    have key : ∀ (m : Nat) (cm : List PC), (h.set i [])[m]? = some cm → cm ≠ [] → h[m]? = some cm := by
      intro m cm hm hn
      by_cases e : i = m
      · subst e
        have hil : i < (h.set i []).length := (List.getElem?_eq_some_iff.1 hm).1
        simp at hil
        simp [hil] at hm
        exact absurd hm hn
      · rw [List.getElem?_set_ne e] at hm; exact hm
    exact H.apart j k cj ck hjk (key j cj hj hnj) (key k ck hk hnk) hnj hnk
  below := H.below

/-- Cells put behind those of a box, in its block: the box is empty then, and a new one holds all. -/
theorem HR.extend (H : HR w0 ρ h w) {j : Nat} {cs new : List PC} (hj : h[j]? = some cs) (hne : cs ≠ []) {e : TF (blk ρ j).k} {ex : List Value} (he : w.heap[(blk ρ j).b]? = some (.cells (cs.map PC.conc ++ ex).toArray e.t e.f))
    (hk : cs.length + ex.length = (blk ρ j).k) (hfit : new.length ≤ ex.length) :
    HR w0 (ρ ++ [⟨(blk ρ j).b, (blk ρ j).k, true⟩]) (h.set j [] ++ [cs ++ new]) (w.setRow (blk ρ j).b (cs.map PC.conc ++ new.map PC.conc ++ ex.drop new.length).toArray) := by
  have hnew : blk (ρ ++ [⟨(blk ρ j).b, (blk ρ j).k, true⟩]) h.length = ⟨(blk ρ j).b, (blk ρ j).k, true⟩ := by simp [blk, List.getD, ← H.len]
  have old : ∀ i ci, i < h.length → (h.set j [] ++ [cs ++ new])[i]? = some ci → ci ≠ [] → blk (ρ ++ [⟨(blk ρ j).b, (blk ρ j).k, true⟩]) i = blk ρ i ∧ i ≠ j ∧ h[i]? = some ci := by
    intro i ci hi hc hn
    rw [List.getElem?_append_left (by simpa using hi)] at hc
    refine ⟨blk_left (by rw [H.len]; exact hi), ?_, ?_⟩
    · intro e; subst e
      simp [hi] at hc
      exact hn hc
    · by_cases e : j = i
      · subst e
        simp [hi] at hc
        exact absurd hc hn
      · rw [List.getElem?_set_ne e] at hc; exact hc
  have isnew : ∀ i ci, ¬ i < h.length → (h.set j [] ++ [cs ++ new])[i]? = some ci → i = h.length ∧ ci = cs ++ new := by
    intro i ci hi hc
    have h1 : i < (h.set j [] ++ [cs ++ new]).length := (List.getElem?_eq_some_iff.1 hc).1
    simp at h1
    have : i = h.length := by omega
    subst this
    refine ⟨rfl, ?_⟩
    rw [List.getElem?_append_right (by simp)] at hc
    simp at hc
    exact hc.symm
  refine ⟨by simp [H.len], ?_, ?_, below_setRow H.below (H.lt hj hne).2 _⟩
  · intro i ds hi hd
    by_cases hlt : i < h.length
    · obtain ⟨k1, k2, k3⟩ := old i ds hlt hi hd
      obtain ⟨h1, h2, e', ex', he', hk'⟩ := H.cell i ds k3 hd
      rw [k1]
      refine ⟨h1, h2, e', ex', ?_, hk'⟩
      rw [setRow_other]
      · exact he'
      · exact fun heq => H.apart i j ds cs k2 k3 hj hd hne heq
    · obtain ⟨rfl, rfl⟩ := isnew i ds hlt hi
      rw [hnew]
      refine ⟨rfl, (H.lt hj hne).2, e, ex.drop new.length, ?_, by simp; omega⟩
      have := setRow_heap w _ _ (cs.map PC.conc ++ new.map PC.conc ++ ex.drop new.length).toArray _ _ he
      simpa using this
  · intro i k ci ck hik hi hk' hni hnk
    by_cases e1 : i < h.length
    · obtain ⟨a1, a2, a3⟩ := old i ci e1 hi hni
      rw [a1]
      by_cases e2 : k < h.length
      · obtain ⟨b1, b2, b3⟩ := old k ck e2 hk' hnk
        rw [b1]; exact H.apart i k ci ck hik a3 b3 hni hnk
      · obtain ⟨rfl, _⟩ := isnew k ck e2 hk'
        rw [hnew]; exact H.apart i j ci cs a2 a3 hj hni hne
    · obtain ⟨rfl, _⟩ := isnew i ci e1 hi
      have e2 : k < h.length := by
        apply Nat.lt_of_not_le
        intro hle
        obtain ⟨rfl, _⟩ := isnew k ck (by omega) hk'
        exact hik rfl
      obtain ⟨b1, b2, b3⟩ := old k ck e2 hk' hnk
      rw [hnew, b1]; exact fun heq => H.apart k j ck cs b2 b3 hj hnk hne heq.symm

/-- Behind a call: the callee's new boxes come behind the own ones. -/
theorem HR.called {w' : World} {σ : List Blk} {new : Heap} (H : HR w0 ρ h w) (K : HR w σ new w') : HR w0 (ρ ++ σ) (h ++ new) w' where
  len := by simp [H.len, K.len]
  cell i ds hi hd := by
    by_cases hlt : i < h.length
    · rw [List.getElem?_append_left hlt] at hi
      obtain ⟨h1, h2, e, ex, he, hk⟩ := H.cell i ds hi hd
      rw [blk_left (by rw [H.len]; exact hlt)]
      refine ⟨h1, h2, e, ex, ?_, hk⟩
      rw [K.below.block _ (H.lt hi hd).1]
      exact he
    · rw [List.getElem?_append_right (Nat.le_of_not_lt hlt)] at hi
      obtain ⟨h1, h2, e, ex, he, hk⟩ := K.cell _ ds hi hd
      have : blk (ρ ++ σ) i = blk σ (i - h.length) := by
        have := blk_right (ρ := ρ) (σ := σ) (i := i - h.length)
        rw [H.len, show h.length + (i - h.length) = i by omega] at this
        exact this
      rw [this]
      exact ⟨h1, Nat.le_trans H.below.size h2, e, ex, he, hk⟩
  apart i j ci cj hij hi hj hni hnj := by
    have hr : ∀ m, h.length ≤ m → blk (ρ ++ σ) m = blk σ (m - h.length) := by
      intro m hm
      have := blk_right (ρ := ρ) (σ := σ) (i := m - h.length)
      rw [H.len, show h.length + (m - h.length) = m by omega] at this
      exact this
    by_cases e1 : i < h.length
    · rw [List.getElem?_append_left e1] at hi
      rw [blk_left (by rw [H.len]; exact e1)]
      by_cases e2 : j < h.length
      · rw [List.getElem?_append_left e2] at hj
        rw [blk_left (by rw [H.len]; exact e2)]
        exact H.apart i j ci cj hij hi hj hni hnj
      · rw [List.getElem?_append_right (Nat.le_of_not_lt e2)] at hj
        rw [hr j (Nat.le_of_not_lt e2)]
        have a1 := (H.lt hi hni).1
        have a2 := (K.lt hj hnj).2
        omega
    · rw [List.getElem?_append_right (Nat.le_of_not_lt e1)] at hi
      rw [hr i (Nat.le_of_not_lt e1)]
      by_cases e2 : j < h.length
      · rw [List.getElem?_append_left e2] at hj
        rw [blk_left (by rw [H.len]; exact e2)]
        have a1 := (H.lt hj hnj).1
        have a2 := (K.lt hi hni).2
        omega
      · rw [List.getElem?_append_right (Nat.le_of_not_lt e2)] at hj
        rw [hr j (Nat.le_of_not_lt e2)]
        exact K.apart _ _ ci cj (by omega) hi hj hni hnj
  below := H.below.trans (K.below.mono H.below.size)

theorem HR.start (w : World) : HR w [] [] w := ⟨rfl, fun i cs hi => by simp at hi, fun i j ci cj _ hi => by simp at hi, Below.refl _ _⟩

theorem ne_of_get {cs : List PC} {o : Nat} {c : PC} (ho : cs[o]? = some c) : cs ≠ [] := by
  intro e; subst e; simp at ho

theorem own_cell (H : HR w0 ρ h w) {i o : Nat} {cs : List PC} {c : PC} (hi : h[i]? = some cs) (ho : cs[o]? = some c) : w.cell? ⟨(blk ρ i).b, o, none⟩ = some c.conc := by
  obtain ⟨_, _, e, ex, he, _⟩ := H.cell i cs hi (ne_of_get ho)
  simp only [World.cell?, he]
  obtain ⟨hl, rfl⟩ := List.getElem?_eq_some_iff.1 ho
  simp [List.getElem?_append_left, hl]

theorem loadCell_ok {G : List Addr} {g : Gv} (H : HR w0 ρ h w) (hG : GV G g w0) {q : Pt} {c : PC} (hq : loadCell h g q = some c) :
    w.cell? (q.addr ρ G) = some c.conc ∧ (q.addr ρ G).block < w.heap.size := by
  cases q with
  | own i o =>
    simp only [loadCell, Option.bind_eq_some_iff] at hq
    obtain ⟨cs, hi, ho⟩ := hq
    exact ⟨own_cell H hi ho, (H.lt hi (ne_of_get ho)).1⟩
  | giv j => exact (hG.gr.later H.below).cell j c hq
  | abs a => exact (hG.mr.later H.below).cell a c hq

/-- Own pointers and given ones, told to the callee as given cells. -/
theorem trPts_ok {G : List Addr} {g : Gv} (H : HR w0 ρ h w) (hG : GV G g w0) : ∀ (qs : List Pt) (acc : List PC) (A : List Addr) (qs' : List Pt) (acc' : List PC),
    trPts h g acc qs = some (qs', acc') → A.length = acc.length → GR A acc w →
    ∃ B, (∀ C, qs'.map (Pt.conc [] (A ++ B ++ C)) = qs.map (Pt.conc ρ G)) ∧ (A ++ B).length = acc'.length ∧ GR (A ++ B) acc' w ∧ ∀ q ∈ qs', q.wf []
  | [], acc, A, qs', acc', ht, hl, hA => by
    simp [trPts] at ht
    obtain ⟨rfl, rfl⟩ := ht
    exact ⟨[], by simp, by simpa using hl, by simpa using hA, by simp⟩
  | q :: r, acc, A, qs', acc', ht, hl, hA => by
    simp only [trPts] at ht
    split at ht
    · rename_i c hc
      split at ht
      · rename_i qs2 acc2 h2
        simp at ht
        obtain ⟨rfl, rfl⟩ := ht
        have hc' := loadCell_ok H hG hc
        have hA2 : GR (A ++ [q.addr ρ G]) (acc ++ [c]) w := by
          refine ⟨fun j d hj => ?_, hA.tabs⟩
          by_cases hlt : j < acc.length
          · rw [List.getElem?_append_left hlt] at hj
            have := hA.cell j d hj
            have hd : (A ++ [q.addr ρ G]).getD j default = A.getD j default := by simp [List.getD, List.getElem?_append_left (show j < A.length by omega)]
            rw [hd]; exact this
          · have hj2 : j = acc.length := by
              have h1 : j < (acc ++ [c]).length := (List.getElem?_eq_some_iff.1 hj).1
              simp at h1; omega
            subst hj2
            simp at hj
            subst hj
            have hd : (A ++ [q.addr ρ G]).getD acc.length default = q.addr ρ G := by simp [List.getD, ← hl]
            rw [hd]; exact hc'
        obtain ⟨B, hB1, hB2, hB3, hB4⟩ := trPts_ok H hG r (acc ++ [c]) (A ++ [q.addr ρ G]) qs2 acc2 h2 (by simp [hl]) hA2
        refine ⟨q.addr ρ G :: B, ?_, ?_, ?_, ?_⟩
        · intro C
          have := hB1 C
          simp only [List.append_assoc, List.singleton_append, List.cons_append] at this ⊢
          simp only [List.map_cons, this]
          congr 1
          simp [Pt.conc, Pt.addr, List.getD, ← hl]
        · simpa using hB2
        · simpa using hB3
        · intro q' hq'
          rcases List.mem_cons.1 hq' with rfl | hq'
          · trivial
          · exact hB4 q' hq'
      · cases ht
    · cases ht

theorem trArgs_ok {G : List Addr} {g : Gv} (H : HR w0 ρ h w) (hG : GV G g w0) : ∀ (xs : List AV) (acc : List PC) (A : List Addr) (ys : List AV) (acc' : List PC),
    trArgs h g acc xs = some (ys, acc') → A.length = acc.length → GR A acc w →
    ∃ B, (∀ C, ys.map (AV.conc [] (A ++ B ++ C)) = xs.map (AV.conc ρ G)) ∧ (A ++ B).length = acc'.length ∧ GR (A ++ B) acc' w ∧ ∀ y ∈ ys, y.wf []
  | [], acc, A, ys, acc', ht, hl, hA => by
    simp [trArgs] at ht
    obtain ⟨rfl, rfl⟩ := ht
    exact ⟨[], by simp, by simpa using hl, by simpa using hA, by simp⟩
  | .agg zs :: r, acc, A, ys, acc', ht, hl, hA => by
    simp only [trArgs] at ht
    split at ht
    · rename_i l a h2
      simp at ht
      obtain ⟨rfl, rfl⟩ := ht
      obtain ⟨B, h1, h2, h3, h4⟩ := trArgs_ok H hG r acc A l a h2 hl hA
      refine ⟨B, fun C => by simp only [List.map_cons, h1 C, AV.conc], h2, h3, ?_⟩
      intro y hy
      rcases List.mem_cons.1 hy with rfl | hy
      · trivial
      · exact h4 y hy
    · cases ht
  | .c (.p z) :: r, acc, A, ys, acc', ht, hl, hA => by
    simp only [trArgs] at ht
    split at ht
    · rename_i l a h2
      simp at ht
      obtain ⟨rfl, rfl⟩ := ht
      obtain ⟨B, h1, h2, h3, h4⟩ := trArgs_ok H hG r acc A l a h2 hl hA
      refine ⟨B, fun C => by simp only [List.map_cons, h1 C, AV.conc, Cl.conc], h2, h3, ?_⟩
      intro y hy
      rcases List.mem_cons.1 hy with rfl | hy
      · trivial
      · exact h4 y hy
    · cases ht
  | .c (.clo f caps) :: r, acc, A, ys, acc', ht, hl, hA => by
    simp only [trArgs] at ht
    split at ht
    · rename_i qs a1 hq
      split at ht
      · rename_i l a h2
        simp at ht
        obtain ⟨rfl, rfl⟩ := ht
        obtain ⟨B1, k1, k2, k3, k4⟩ := trPts_ok H hG caps acc A qs a1 hq hl hA
        obtain ⟨B, h1, h2, h3, h4⟩ := trArgs_ok H hG r a1 (A ++ B1) l a h2 k2 k3
        refine ⟨B1 ++ B, fun C => ?_, by simpa using h2, by simpa using h3, ?_⟩
        · have e1 := h1 C
          have e2 := k1 (B ++ C)
          simp only [List.append_assoc] at e1 e2 ⊢
          simp only [List.map_cons, e1, AV.conc, Cl.conc, e2]
        · intro y hy
          rcases List.mem_cons.1 hy with rfl | hy
          · exact k4
          · exact h4 y hy
      · cases ht
    · cases ht
  | .c (.ptr q) :: r, acc, A, ys, acc', ht, hl, hA => by
    simp only [trArgs] at ht
    split at ht
    · rename_i qs a1 hq
      split at ht
      · rename_i l a h2
        simp at ht
        obtain ⟨rfl, rfl⟩ := ht
        obtain ⟨B1, k1, k2, k3, k4⟩ := trPts_ok H hG [q] acc A qs a1 hq hl hA
        obtain ⟨B, h1, h2, h3, h4⟩ := trArgs_ok H hG r a1 (A ++ B1) l a h2 k2 k3
        refine ⟨B1 ++ B, fun C => ?_, by simpa using h2, by simpa using h3, ?_⟩
        · have e1 := h1 C
          have e2 := k1 (B ++ C)
          simp only [List.append_assoc] at e1 e2 ⊢
          simp only [List.map_append, List.map_map, e1, List.map_cons]
          have : qs.map (AV.conc [] (A ++ (B1 ++ (B ++ C))) ∘ fun q => AV.c (Cl.ptr q)) = qs.map (Pt.conc [] (A ++ (B1 ++ (B ++ C)))) := rfl
          rw [this, e2]
          simp [AV.conc, Cl.conc]
        · intro y hy
          rcases List.mem_append.1 hy with hy | hy
          · obtain ⟨q', hq', rfl⟩ := List.mem_map.1 hy
            exact k4 q' hq'
          · exact h4 y hy
      · cases ht
    · cases ht
  | .c (.row i o n z) :: r, acc, A, ys, acc', ht, hl, hA => by simp [trArgs] at ht
  | .c (.emp i o) :: r, acc, A, ys, acc', ht, hl, hA => by simp [trArgs] at ht

end
end Go.Proofs.YtcnapkdccjibpaaGreatDoor.Eng
