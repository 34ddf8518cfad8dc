/- What the evaluator says of one operation holds of the model's run: the theorem. -/
import Derived.Test.YtcnapkdccjibpaaGreatDoorEng4
import Derived.Laws.MakeOwn
import Derived.Laws.BytesArg
import Derived.Lib.ConvBytes
namespace Go.Proofs.YtcnapkdccjibpaaGreatDoor.Eng
open Go Go.RowKit
set_option linter.unusedVariables false
set_option linter.unusedSimpArgs false

section
variable {P : Program} {w0 : World}

/-- What holds behind an operation: the boxes told, the value told. -/
def Behind (w0 : World) (ρ : List Blk) (G : List Addr) (h' : Heap) (v : Option SV) (ρ' : List Blk) (x : Value) (w' : World) : Prop :=
  Lq ρ ρ' ∧ HR w0 ρ' h' w' ∧ ∀ s, v = some s → x = s.conc ρ' G ∧ s.wf ρ'

theorem Behind.same {w : World} {ρ : List Blk} {h : Heap} {G : List Addr} (H : HR w0 ρ h w) {s : SV} {x : Value} (hx : x = s.conc ρ G) (hw : s.wf ρ) : Behind w0 ρ G h (some s) ρ x w :=
  ⟨Lq.refl ρ, H, fun s' e => by obtain rfl := Option.some.inj e; exact ⟨hx, hw⟩⟩

theorem blk_new {ρ : List Blk} {h : Heap} {x : Blk} (hl : ρ.length = h.length) : blk (ρ ++ [x]) h.length = x := by
  simp [blk, List.getD, ← hl]
theorem ptr_new {ρ : List Blk} {h : Heap} {G : List Addr} {b k : Nat} (hl : ρ.length = h.length) :
    (.pointer (some ⟨b, 0, none⟩) : Value) = SV.conc (ρ ++ [⟨b, k, true⟩]) G (.v (.c (.ptr (.own h.length 0)))) ∧ SV.wf (ρ ++ [⟨b, k, true⟩]) (.v (.c (.ptr (.own h.length 0)))) := by
  constructor
  · simp only [SV.conc, AV.conc, Cl.conc, Pt.conc, Pt.addr]
    rw [blk_new hl]
  · show (blk (ρ ++ [⟨b, k, true⟩]) h.length).ok = true
    rw [blk_new hl]
theorem row_new {ρ : List Blk} {h : Heap} {G : List Addr} {b n z : Nat} (hl : ρ.length = h.length) (hz : 0 < z) :
    (.slice (some ⟨b, 0, none⟩) n n : Value) = SV.conc (ρ ++ [⟨b, n * z, true⟩]) G (.v (.c (if n = 0 then .emp h.length 0 else .row h.length 0 n z))) ∧ SV.wf (ρ ++ [⟨b, n * z, true⟩]) (.v (.c (if n = 0 then .emp h.length 0 else .row h.length 0 n z))) := by
  by_cases h0 : n = 0
  · rw [if_pos h0]
    subst h0
    constructor
    · simp only [SV.conc, AV.conc, Cl.conc]
      rw [blk_new hl]
    · show (blk (ρ ++ [⟨b, 0 * z, true⟩]) h.length).ok = true
      rw [blk_new hl]
  · rw [if_neg h0]
    constructor
    · simp only [SV.conc, AV.conc, Cl.conc]
      rw [blk_new hl]
      simp only [Nat.sub_zero]
      rw [Nat.mul_div_cancel n hz]
    · show (blk (ρ ++ [⟨b, n * z, true⟩]) h.length).ok = true
      rw [blk_new hl]

theorem add_lit (b o k : Nat) : (⟨b, o, none⟩ : Addr).add k = ⟨b, o + k, none⟩ := by unfold Addr.add; split <;> simp_all

theorem cellsAt_ok {m : Addr → Option PC} {a : Addr} : ∀ {n k : Nat} {cs : List PC}, cellsAt m a k n = some cs → cs.length = n ∧ ∀ j c, cs[j]? = some c → m (a.add (k + j)) = some c
  | 0, k, cs, h => by simp [cellsAt] at h; subst h; simp
  | n + 1, k, cs, h => by
    simp only [cellsAt] at h
    split at h
    · rename_i c l hc hl
      simp at h; subst h
      obtain ⟨h1, h2⟩ := cellsAt_ok hl
      refine ⟨by simp [h1], fun j d hj => ?_⟩
      cases j with
      | zero => simp at hj; subst hj; exact hc
      | succ j =>
        simp at hj
        have := h2 j d hj
        rw [show k + (j + 1) = k + 1 + j by omega]; exact this
    · cases h

theorem textF_out {p : Bool} {du d : TD} {x : Option (Nat × List PC)} {r : PC} (h : textF p du d x = some r) : ∃ n cs, x = some (n, cs) ∧ du.byt = true ∧ d.isStr = true ∧ ∃ l, bytesC cs = some l ∧ r = .str ⟨l.toArray⟩ := by
  unfold textF at h
  split at h
  · split at h
    · rename_i hb
      split at h
      · rename_i l hl
        simp at h
        exact ⟨_, _, rfl, hb.1, hb.2.1, l, hl, h.symm⟩
      · cases h
    · cases h
  · cases h
theorem bytesC_nums : ∀ {cs : List PC} {l : List UInt8}, bytesC cs = some l → ∃ ns : List Int, cs.map PC.conc = ns.map (Value.int .u8) ∧ l = ns.map fun n => UInt8.ofNat n.toNat
  | [], l, h => by simp [bytesC] at h; subst h; exact ⟨[], rfl, rfl⟩
  | .int k v :: r, l, h => by
    cases k <;> simp only [bytesC] at h <;> try (cases h; done)
    split at h
    · rename_i l' hl
      simp at h; subst h
      obtain ⟨ns, h1, h2⟩ := bytesC_nums hl
      exact ⟨v :: ns, by simp [h1, PC.conc], by simp [h2]⟩
    · cases h
  | .bool _ :: r, l, h => by simp [bytesC] at h
  | .str _ :: r, l, h => by simp [bytesC] at h
  | .fn _ :: r, l, h => by simp [bytesC] at h
  | .sl _ _ _ :: r, l, h => by simp [bytesC] at h
  | .nf :: r, l, h => by simp [bytesC] at h
  | .np :: r, l, h => by simp [bytesC] at h
/-- The cells of a slice stand where it says. -/
theorem rowCells_ok {ρ : List Blk} {h : Heap} {w : World} {m : Addr → Option PC} (H : HR w0 ρ h w) (hm : MR m w0) {z : Nat} {x : AV} {n : Nat} {cs : List PC} (hx : rowCells z h m x = some (n, cs)) (G : List Addr) :
    ∃ a c, x.conc ρ G = .slice (some a) n c ∧ cs.length = n * z ∧ ∀ j v, (cs.map PC.conc)[j]? = some v → w.cell? (a.add j) = some v := by
  unfold rowCells at hx
  split at hx
  · rename_i i o n' z'
    split at hx
    · rename_i hz
      subst hz
      split at hx
      · rename_i bs hb
        split at hx
        · rename_i hle
          simp at hx
          obtain ⟨rfl, rfl⟩ := hx
          refine ⟨⟨(blk ρ i).b, o, none⟩, _, rfl, by simp; omega, fun j v hv => ?_⟩
          simp only [List.getElem?_map, Option.map_eq_some_iff] at hv
          obtain ⟨c, hc, rfl⟩ := hv
          rw [List.getElem?_take] at hc
          split at hc
          · rw [List.getElem?_drop] at hc
            rw [add_lit]
            exact own_cell H hb hc
          · cases hc
        · cases hx
      · cases hx
    · cases hx
  · rename_i a n' c
    simp only [Option.map_eq_some_iff] at hx
    obtain ⟨l, hl, he⟩ := hx
    simp at he
    obtain ⟨rfl, rfl⟩ := he
    obtain ⟨h1, h2⟩ := cellsAt_ok hl
    refine ⟨a, c, rfl, h1, fun j v hv => ?_⟩
    simp only [List.getElem?_map, Option.map_eq_some_iff] at hv
    obtain ⟨d, hd, rfl⟩ := hv
    have := h2 j d hd
    rw [Nat.zero_add] at this
    exact ((hm.later H.below).cell _ _ this).1
  · rename_i i o
    simp at hx
    obtain ⟨rfl, rfl⟩ := hx
    exact ⟨⟨(blk ρ i).b, o, none⟩, 0, rfl, by simp, fun j v hv => by simp at hv⟩
  · cases hx

theorem one_cells (l : List PC) : ∀ u ∈ l.map PC.conc, u.oneCell' = true := by
  intro u hu
  obtain ⟨c, _, rfl⟩ := List.mem_map.1 hu
  exact c.oneCell

theorem modify_push {α : Type} (A : Array α) (o : α) (f : α → α) : (A.push o).modify A.size f = A.push (f o) := by
  apply Array.ext
  · simp
  · intro i h1 h2
    simp only [Array.getElem_modify]
    by_cases e : A.size = i
    · subst e; simp
    · have : i < A.size := by simp at h2; omega
      simp [e, Array.getElem_push, this]
theorem bytesWorld_eq (w : World) (e : TypeId) (s : ByteArray) : Lib.bytesWorld w e s = w.drew.alloc (.cells (Lib.bytesCells w e s) e ((Lib.bytesCells w e s).size, (Lib.bytesCells w e s).size + 1)) := by
  unfold Lib.bytesWorld World.freeze
  rw [if_neg (by decide)]
  have ha : ∀ o, w.drew.alloc o = { w.drew with heap := w.heap.push o } := fun o => rfl
  rw [ha, ha]
  simp only
  rw [modify_push]
  simp only [beq_self_eq_true, if_true]
theorem bytes_ok {ρ : List Blk} {h : Heap} {w : World} (H : HR w0 ρ h w) (G : List Addr) (e : TypeId) (s : ByteArray) :
    ∃ ρ', Behind w0 ρ G (h ++ [bytesOf s]) (some (.v (.c (.row h.length 0 s.size 1)))) ρ' (.slice (some ⟨w.heap.size, 0, none⟩) s.size (grownCap w s.size 0 e)) (Lib.bytesWorld w e s) := by
  have hge := grownCap_ge w s.size 0 e
  have hbl : (bytesOf s).length = s.size := by
    unfold bytesOf; rw [List.length_map, Array.length_toList]; rfl
  have hsz : (Lib.bytesCells w e s).size = grownCap w s.size 0 e := by
    have : s.data.size = s.size := rfl
    simp [Lib.bytesCells, this]; omega
  have hP := H.drew.pushF (bytesOf s) (List.replicate (grownCap w s.size 0 e - s.size) (.int .u8 0)) e ((Lib.bytesCells w e s).size, (Lib.bytesCells w e s).size + 1) (by right; simp [hbl, hsz]; omega)
  have harr : ((bytesOf s).map PC.conc ++ List.replicate (grownCap w s.size 0 e - s.size) (Value.int .u8 0)).toArray = Lib.bytesCells w e s := by
    apply Array.ext'
    simp only [bytesOf, Lib.bytesCells, List.map_map, Array.toList_append, Array.toList_map, Array.toList_replicate]
    rfl
  have hk : (bytesOf s).length + (List.replicate (grownCap w s.size 0 e - s.size) (Value.int .u8 0)).length = grownCap w s.size 0 e := by simp [hbl]; omega
  rw [harr, hk] at hP
  rw [bytesWorld_eq]
  refine ⟨_, Lq.app _ _, hP, fun s' es => ?_⟩
  obtain rfl := Option.some.inj es
  have hnew : blk (ρ ++ [⟨w.heap.size, grownCap w s.size 0 e, true⟩]) h.length = ⟨w.heap.size, grownCap w s.size 0 e, true⟩ := blk_new H.len
  constructor
  · simp only [SV.conc, AV.conc, Cl.conc]
    show _ = Value.slice (some ⟨(blk (ρ ++ [⟨w.heap.size, grownCap w s.size 0 e, true⟩]) h.length).b, _, _⟩) _ (((blk (ρ ++ [⟨w.heap.size, grownCap w s.size 0 e, true⟩]) h.length).k - _) / _)
    rw [hnew]; simp
  · show (blk (ρ ++ [⟨w.heap.size, grownCap w s.size 0 e, true⟩]) h.length).ok = true
    rw [hnew]

theorem run_storeCells_atF (g o : Nat) (t : TypeId) (fr : Nat × Nat) : ∀ (vs : List Value) (i : Nat) (cur : Array Value) (w : World), (fr = (0, 0) ∨ cur.size ≤ fr.1) → w.heap[g]? = some (.cells cur t fr) → o + i + vs.length ≤ cur.size → (∀ v ∈ vs, v.oneCell' = true) →
    (storeCells ⟨g, o, none⟩ vs i).run P w = .ok () (w.setRow g (cur.toList.take (o + i) ++ vs ++ cur.toList.drop (o + i + vs.length)).toArray)
  | [], i, cur, w, _, hg, _, _ => by
    simp only [storeCells, List.append_nil, List.length_nil, Nat.add_zero, List.take_append_drop, Array.toArray_toList]
    rw [setRow_self w g cur t fr hg]
    rfl
  | v :: rest, i, cur, w, hf, hg, hl, h1 => by
    have hi : o + i < cur.size := by simp at hl; omega
    have hadd : (⟨g, o, none⟩ : Addr).add i = ⟨g, o + i, none⟩ := by unfold Addr.add; split <;> simp_all
    have hcell : w.cell? ⟨g, o + i, none⟩ = some cur[o + i] := by simp [World.cell?, hg, hi]
    have hfro : w.frozen? ⟨g, o + i, none⟩ = false := by
      rcases hf with rfl | hf
      · simp [World.frozen?, hg]
      · obtain ⟨f1, f2⟩ := fr
        simp only at hf
        simp [World.frozen?, hg]
        omega
    have hst : (store ((⟨g, o, none⟩ : Addr).add i) v).run P w = .ok () (w.setRow g (cur.setIfInBounds (o + i) v)) := by
      rw [hadd, run_store P w _ v _ (h1 v (by simp)), hcell]
      simp [hfro, setCell_eq_setRow w g (o + i) cur t fr v hg]
    have ih := run_storeCells_atF g o t fr rest (i + 1) (cur.setIfInBounds (o + i) v) (w.setRow g (cur.setIfInBounds (o + i) v)) (by simpa using hf) (setRow_heap w g cur _ t _ hg) (by simp at hl ⊢; omega) (fun x hx => h1 x (by simp [hx]))
    simp only [storeCells, Sem.run_bind, hst, Result.andThen_ok, ih, setRow_setRow]
    congr 3
    have e := list_seg_step cur.toList (o + i) v rest (by simp at hl ⊢; omega)
    simpa [Array.toList_setIfInBounds, Nat.add_assoc] using e

/-- New cells behind a slice, in its block (the block's kind may be another name of the elements'). -/
theorem run_append_in (w : World) (t ty e e' : TypeId) (i : TypeInfo) (ht : P.underlying t = some (.slice e)) (hi : P.info? e = some i)
    (g sLen sCap : Nat) (cur : Array Value) (fr : Nat × Nat) (hfr : fr = (0, 0) ∨ cur.size ≤ fr.1) (hg : w.heap[g]? = some (.cells cur e' fr))
    (a : Addr) (m c : Nat) (news : List Value) (hl : news.length = m * i.size) (hnews : ∀ j u, news[j]? = some u → w.cell? (a.add j) = some u) (h1 : ∀ u ∈ news, u.oneCell' = true)
    (hroom : sLen + m ≤ sCap) (hfit : sLen * i.size + news.length ≤ cur.size) :
    (Builtin.append_ #[t, t] ty #[.slice (some ⟨g, 0, none⟩) sLen sCap, .slice (some a) m c]).run P w =
      .ok (.slice (some ⟨g, 0, none⟩) (sLen + m) sCap) (w.setRow g (cur.toList.take (sLen * i.size) ++ news ++ cur.toList.drop (sLen * i.size + news.length)).toArray) := by
  have hf := run_firstCells_some (P := P) w i.size m a m c news hl hnews
  have hst := run_storeCells_atF (P := P) g (sLen * i.size) e' fr news 0 cur w hfr hg (by simpa using hfit) h1
  simp only [Nat.add_zero] at hst
  simp [Builtin.append_, run_underlying ht, sizeOf, typeInfo, hi, Builtin.lenOf, hroom, hf, Addr.add_lit, hst]

/-- New cells behind a slice. -/
theorem app_ok {ρ : List Blk} {h h' : Heap} {w : World} (H : HR w0 ρ h w) {t : Nat} {d : TD} (hd : TdOk P t d) (hrow : d.row = true) {s : AV} {m : Nat} {new : List PC} {r : SV} (hs : appF d.ez1.length h s m new = some (r, h'))
    {a : Addr} {c : Nat} (hnews : ∀ j v, (new.map PC.conc)[j]? = some v → w.cell? (a.add j) = some v) (G : List Addr) (ty : TypeId) :
    ∃ ρ' x w', (Builtin.append_ #[t, t] ty #[s.conc ρ G, .slice (some a) m c]).run P w = .ok x w' ∧ Behind w0 ρ G h' (some r) ρ' x w' := by
  obtain ⟨e, i, z, hu, hi, hz, hsz, hzc, hpos, hby, _⟩ := hd.row hrow
  unfold appF at hs
  split at hs
  case isFalse => cases hs
  rename_i hc
  obtain ⟨hl, hm0', hm1⟩ := hc
  have hl' : (new.map PC.conc).length = m * i.size := by rw [hsz]; simpa using hl
  have hzs : z.cells.size = d.ez1.length := by rw [hzc]; simp
  have grown : ∀ (k : Nat) (olds : List PC), olds.length = k * d.ez1.length → ∀ (w1 : World) (h1 : Heap), HR w0 ρ h1 w1 → h1.length = h.length → w1.heap.size = w.heap.size → ∀ cap, k + m ≤ cap →
      Behind w0 ρ G (h1 ++ [olds ++ new]) (some (.v (.c (.row h.length 0 (k + m) d.ez1.length)))) (ρ ++ [⟨w.heap.size, cap * d.ez1.length, true⟩]) (.slice (some ⟨w.heap.size, 0, none⟩) (k + m) cap)
        (w1.alloc (.cells ((olds.map PC.conc).toArray ++ (new.map PC.conc).toArray ++ Builtin.zeroCells z.cells (cap - (k + m))) e)) := by
    intro k olds ho w1 h1 H1 hh1 hws cap hcap
    have hP := H1.push (olds ++ new) (Builtin.zeroCells z.cells (cap - (k + m))).toList e
    have hsize : (olds ++ new).length + (Builtin.zeroCells z.cells (cap - (k + m))).toList.length = cap * d.ez1.length := by
      have hzl : (Builtin.zeroCells z.cells (cap - (k + m))).toList.length = (cap - (k + m)) * d.ez1.length := by rw [Array.length_toList, size_zeroCells, hzs]
      rw [hzl, List.length_append, ho, hl, ← Nat.add_mul, ← Nat.add_mul]
      congr 1; omega
    rw [hsize, hws] at hP
    have harr : ((olds ++ new).map PC.conc ++ (Builtin.zeroCells z.cells (cap - (k + m))).toList).toArray = (olds.map PC.conc).toArray ++ (new.map PC.conc).toArray ++ Builtin.zeroCells z.cells (cap - (k + m)) := by
      apply Array.ext'; simp
    rw [harr] at hP
    refine ⟨Lq.app _ _, hP, fun s' es => ?_⟩
    obtain rfl := Option.some.inj es
    have hnew : blk (ρ ++ [⟨w.heap.size, cap * d.ez1.length, true⟩]) h.length = ⟨w.heap.size, cap * d.ez1.length, true⟩ := blk_new H.len
    constructor
    · simp only [SV.conc, AV.conc, Cl.conc]
      rw [hnew]
      simp only [Nat.sub_zero]
      rw [Nat.mul_div_cancel cap hpos]
    · show (blk _ _).ok = true
      rw [hnew]
  have hfit : ∀ k : Nat, k ≤ 1048576 → (k + m) * i.bytes ≤ 140737488355328 := by
    intro k hk
    have := Nat.mul_le_mul (show k + m ≤ 2097152 by omega) hby
    omega
  split at hs
  · rename_i j n z'
    split at hs
    case isFalse => cases hs
    rename_i hc
    obtain ⟨rfl, hn0, hn1⟩ := hc
    split at hs
    · rename_i cs hcs
      split at hs
      · rename_i hlen
        simp at hs
        obtain ⟨rfl, rfl⟩ := hs
        have hne : cs ≠ [] := by
          intro e; subst e
          have := Nat.mul_pos hn0 hpos
          rw [List.length_nil] at hlen
          omega
        obtain ⟨k1, k2, e', ex, he, hk⟩ := H.cell j cs hcs hne
        -- the capacity
        have hcap : n ≤ (blk ρ j).k / d.ez1.length := by
          rw [Nat.le_div_iff_mul_le hpos, ← hk, hlen]; omega
        have hsv : (AV.c (Cl.row j 0 n d.ez1.length)).conc ρ G = .slice (some ⟨(blk ρ j).b, 0, none⟩) n ((blk ρ j).k / d.ez1.length) := by simp [AV.conc, Cl.conc]
        rw [hsv]
        by_cases hroom : n + m ≤ (blk ρ j).k / d.ez1.length
        · have hmul := (Nat.le_div_iff_mul_le hpos).1 hroom
          have hfit' : new.length ≤ ex.length := by
            rw [Nat.add_mul, ← hl, ← hlen, ← hk] at hmul; omega
          have hr := run_append_in (P := P) w t ty e e'.t i hu hi (blk ρ j).b n ((blk ρ j).k / d.ez1.length) _ e'.f (by have := e'.ok; simpa [hk] using this) he a m c (new.map PC.conc) hl' hnews (one_cells new) hroom (by
              rw [hsz, ← hlen]
              simp only [List.size_toArray, List.length_append, List.length_map]
              omega)
          have hE := H.extend (new := new) hcs hne he hk hfit'
          have harr : ((cs.map PC.conc ++ ex).toArray.toList.take (n * i.size) ++ new.map PC.conc ++ (cs.map PC.conc ++ ex).toArray.toList.drop (n * i.size + (new.map PC.conc).length)) = cs.map PC.conc ++ new.map PC.conc ++ ex.drop new.length := by
            rw [hsz, ← hlen]
            have e1 : cs.length = (cs.map PC.conc).length := by simp
            simp only
            have e2 : (new.map PC.conc).length = new.length := by simp
            rw [e2, e1, List.take_left, ← List.drop_drop, List.drop_left]
          rw [harr] at hr
          refine ⟨_, _, _, hr, Lq.app _ _, hE, fun s' es => ?_⟩
          obtain rfl := Option.some.inj es
          have hnew : blk (ρ ++ [⟨(blk ρ j).b, (blk ρ j).k, true⟩]) h.length = ⟨(blk ρ j).b, (blk ρ j).k, true⟩ := blk_new H.len
          constructor
          · simp only [SV.conc, AV.conc, Cl.conc]
            rw [hnew]; simp
          · show (blk _ _).ok = true
            rw [hnew]
        · have holds : ∀ k v, (cs.map PC.conc)[k]? = some v → w.cell? ((⟨(blk ρ j).b, 0, none⟩ : Addr).add k) = some v := by
            intro k v hv
            simp only [List.getElem?_map, Option.map_eq_some_iff] at hv
            obtain ⟨u, hu2, rfl⟩ := hv
            rw [add_lit, Nat.zero_add]
            exact own_cell H hcs hu2
          have hr := run_append_grow (P := P) w t ty e i z hu hi hz ⟨(blk ρ j).b, 0, none⟩ n ((blk ρ j).k / d.ez1.length) (cs.map PC.conc) (by rw [hsz]; simpa using hlen) holds a m c (new.map PC.conc) hl' hnews (by omega) (by omega) (growslice_fits (by omega) (hfit n hn1))
          have hge := grownCap_ge w (n + m) ((blk ρ j).k / d.ez1.length) e
          have hg := grown n cs hlen w.drew (h.set j []) (H.kill j).drew (by simp) rfl _ hge
          exact ⟨_, _, _, hr, hg⟩
      · cases hs
    · cases hs
  · simp at hs
    obtain ⟨rfl, rfl⟩ := hs
    have hm0 : 0 < m := hm0'.resolve_right (by simp [rowA])
    have hr := run_append_nil (P := P) w t ty e i z hu hi hz a m c (new.map PC.conc) hl' hnews hm0 (by omega) (by have := hfit 0 (by omega); rw [Nat.zero_add] at this; omega)
    have hge := grownCap_ge w m 0 e
    have hg := grown 0 [] (by simp) w.drew h H.drew rfl rfl (grownCap w m 0 e) (by omega)
    simp only [Nat.zero_add, List.map_nil, List.nil_append] at hg
    refine ⟨ρ ++ [⟨w.heap.size, grownCap w m 0 e * d.ez1.length, true⟩], _, _, hr, ?_⟩
    have e0 : (#[] : Array Value) ++ (new.map PC.conc).toArray ++ Builtin.zeroCells z.cells (grownCap w m 0 e - m) = (new.map PC.conc).toArray ++ Builtin.zeroCells z.cells (grownCap w m 0 e - m) := by simp
    rw [e0] at hg
    exact hg
  · rename_i j o
    simp at hs
    obtain ⟨rfl, rfl⟩ := hs
    have hm0 : 0 < m := hm0'.resolve_right (by simp [rowA])
    have hr := run_append_grow (P := P) w t ty e i z hu hi hz ⟨(blk ρ j).b, o, none⟩ 0 0 [] (by simp) (by intro k v hv; simp at hv) a m c (new.map PC.conc) hl' hnews (by omega) (by omega) (growslice_fits (by omega) (hfit 0 (by omega)))
    have hge := grownCap_ge w (0 + m) 0 e
    have hg := grown 0 [] (by simp) w.drew h H.drew rfl rfl (grownCap w (0 + m) 0 e) hge
    simp only [List.map_nil, List.nil_append] at hg
    rw [show 0 + m = m by omega] at hg hr
    exact ⟨_, _, _, hr, hg⟩
  · cases hs

theorem index_ok {t : Nat} {d : TD} (hd : TdOk P t d) (hrow : d.row = true) (a : Addr) (n c : Nat) (k : IntKind) (j : Int) (w : World) (h0 : 0 ≤ j) (hn : j < n) :
    (Instr.indexAt t (.slice (some a) n c) (.int k j)).run P w = .ok (.pointer (some (a.add (j.toNat * d.ez1.length)))) w := by
  obtain ⟨e, i, z, hu, hi, hz, hsz, hzc, hpos, hby, h64⟩ := hd.row hrow
  simp [Instr.indexAt, asIntOf, run_underlying hu, h0, hn, sizeOf, typeInfo, hi, hsz]

theorem buildSlice_ok {t : Nat} {d : TD} (hd : TdOk P t d) (hrow : d.row = true) {n : Nat} (hn : n ≤ 1000) {ps : List (Nat × List PC)} {vs : Array (Nat × Value)} (hv : Parts ps vs.toList) {cs : List PC}
    (hf : fillR d.ez1.length ((List.replicate n d.ez1).flatten) ps = some cs) (w : World) :
    ∃ e, (Instr.buildSlice t n vs).run P w = .ok (.slice (some ⟨w.heap.size, 0, none⟩) n n) (w.alloc (.cells (cs.map PC.conc).toArray e)) := by
  obtain ⟨e, i, z, hu, hi, hz, hsz, hzc, hpos, hby, h64⟩ := hd.row hrow
  refine ⟨e, ?_⟩
  have h1 := fillR_ok hf hv
  rw [← range_zero hpos n] at h1
  have hle : n * d.ez1.length ≤ 64000 := Nat.le_trans (Nat.mul_le_mul hn h64) (by omega)
  have h24 : ¬ (2 ^ 24 < n * d.ez1.length) := by omega
  have hr0 : Array.range 0 = (#[] : Array Nat) := rfl
  by_cases h0 : n = 0
  · subst h0
    simp only [Nat.zero_mul, hr0, Array.map_empty] at h1
    simp [Instr.buildSlice, run_underlying hu, sizeOf, typeInfo, hi, hsz, hr0, h1, newRow]
  · have h00 : ¬ (n * d.ez1.length = 0) := by
      have := Nat.mul_pos (Nat.pos_of_ne_zero h0) hpos
      omega
    have hzn : d.ez1 ≠ [] := by intro e; rw [e] at hpos; simp at hpos
    simp only [hzc.symm] at h1
    have h24' : ¬ (16777216 < n * d.ez1.length) := by omega
    simp only [Instr.buildSlice, run_underlying hu, sizeOf, typeInfo, hi, hsz, Sem.run_bind, Sem.run_pure, Result.andThen_ok]
    simp [hz, hsz, zeroValue, typeInfo, hi, h0, hzn, h24', h1, newRow]
    exact fun h => absurd h h00

/-- An operand that may lack. -/
def OptV : Option Int → Option Value → Prop
  | none, v => v = none
  | some n, v => ∃ k, v = some (.int k n)
theorem optI_ok {ρ : List Blk} {G : List Addr} {env : Env} {a : Act} (hE : ER ρ G env a.tmps) {x : Option Operand} {y : Option Int} (h : optI env x = some y) : OptV y (x.map a.eval) := by
  cases x with
  | none => simp [optI] at h; subst h; rfl
  | some x =>
    simp only [optI] at h
    split at h
    · rename_i k n hn
      simp at h; subst h
      exact ⟨k, by simp [hE.opdP hn, PC.conc]⟩
    · cases h

theorem bound_ok (w : World) {k : IntKind} {i : Int} {y : Nat} {c : BoundsCode} (h0 : 0 ≤ i) (h1 : i ≤ y) : (Instr.sliceBound (.int k i) y c).run P w = .ok i.toNat w := by
  simp [Instr.sliceBound, asIntOf, h0, h1]

theorem slice_ok {ρ : List Blk} {h : Heap} {w : World} (H : HR w0 ρ h w) {t : Nat} {d : TD} (hd : TdOk P t d) {x r : AV} (hx : x.wf ρ) {l hh m : Option Int} {lo hi mx : Option Value} (hl : OptV l lo) (hhi : OptV hh hi) (hm : OptV m mx)
    (hs : sliceF d h x (l.getD 0) hh m = some r) (G : List Addr) : (Instr.sliceAt t (x.conc ρ G) lo hi mx).run P w = .ok (r.conc ρ G) w ∧ r.wf ρ := by
  unfold sliceF at hs
  split at hs
  · rename_i i o n z'
    split at hs
    case h_2 => cases hs
    rename_i cs hcs
    split at hs
    case isFalse => cases hs
    rename_i hc
    obtain ⟨hrow, rfl, h0, hle, hne⟩ := hc
    obtain ⟨e, ii, z, hu, hi', hz, hsz, hzc, hpos, hby, h64⟩ := hd.row hrow
    have hcapk : 0 < n → n ≤ ((blk ρ i).k - o) / d.ez1.length := by
      intro hn
      obtain ⟨_, _, _, ex, _, hk⟩ := H.cell i cs hcs hne
      exact (Nat.le_div_iff_mul_le hpos).2 (by omega)
    have hcap' : ∀ L : Nat, L ≤ n → 0 < n → ((blk ρ i).k - (o + L * d.ez1.length)) / d.ez1.length = ((blk ρ i).k - o) / d.ez1.length - L := by
      intro L hL hn
      rw [← Nat.sub_sub, Nat.mul_comm L]
      exact Nat.sub_mul_div _ _ _
    split at hs
    · -- to the end
      split at hs
      case isFalse => cases hs
      rename_i hln
      simp at hs; subst hs
      obtain rfl := hhi
      obtain rfl := hm
      have hn : 0 < n := by omega
      have c1 := hcapk hn
      refine ⟨?_, hx⟩
      have hne : ¬ (((blk ρ i).k - o) / d.ez1.length = (l.getD 0).toNat) := by omega
      have hc2 := hcap' _ (show (l.getD 0).toNat ≤ n by omega) hn
      cases l with
      | none =>
        obtain rfl := hl
        simp only [Option.getD_none, Int.toNat_zero] at hne hc2
        simp [Instr.sliceAt, run_underlying hu, AV.conc, Cl.conc, Instr.slice, Instr.sliceBounds, sizeOf, typeInfo, hi', hsz, hne, add_lit]
      | some L =>
        obtain ⟨k, rfl⟩ := hl
        simp only [Option.getD_some] at hne hc2 h0 hln
        have h1 := bound_ok (P := P) w (k := k) (c := .sliceB) h0 (show L ≤ (n : Int) by omega)
        simp [Instr.sliceAt, run_underlying hu, AV.conc, Cl.conc, Instr.slice, Instr.sliceBounds, sizeOf, typeInfo, hi', hsz, h1, hne, hc2, add_lit]
    · -- a part
      rename_i H1
      split at hs
      case isFalse => cases hs
      rename_i hln
      simp at hs; subst hs
      obtain ⟨k2, rfl⟩ := hhi
      obtain rfl := hm
      have hn : 0 < n := by omega
      have c1 := hcapk hn
      refine ⟨?_, hx⟩
      have hne : ¬ (((blk ρ i).k - o) / d.ez1.length = (l.getD 0).toNat) := by omega
      have hc2 := hcap' _ (show (l.getD 0).toNat ≤ n by omega) hn
      have h2 := bound_ok (P := P) w (k := k2) (i := H1) (y := ((blk ρ i).k - o) / d.ez1.length) (c := .sliceAcap) (by omega) (by omega)
      cases l with
      | none =>
        obtain rfl := hl
        simp only [Option.getD_none, Int.toNat_zero] at hne hc2
        simp [Instr.sliceAt, run_underlying hu, AV.conc, Cl.conc, Instr.slice, Instr.sliceBounds, sizeOf, typeInfo, hi', hsz, hne, h2, add_lit]
      | some L =>
        obtain ⟨k, rfl⟩ := hl
        simp only [Option.getD_some] at hne hc2 h0 hln
        have h1 := bound_ok (P := P) w (k := k) (i := L) (y := H1.toNat) (c := .sliceB) h0 (by omega)
        have e3 : H1.toNat - L.toNat = (H1 - L).toNat := by omega
        simp [Instr.sliceAt, run_underlying hu, AV.conc, Cl.conc, Instr.slice, Instr.sliceBounds, sizeOf, typeInfo, hi', hsz, h1, h2, hne, hc2, add_lit, e3]
    · rename_i H1 M1
      split at hs
      case isFalse => cases hs
      rename_i hln
      obtain ⟨e1, rfl, rfl⟩ := hln
      simp at hs; subst hs
      obtain ⟨k2, rfl⟩ := hhi
      obtain ⟨k3, rfl⟩ := hm
      refine ⟨?_, hx⟩
      have h2 := fun (y : Nat) (c : BoundsCode) => bound_ok (P := P) w (k := k2) (i := 0) (y := y) (c := c) (by omega) (by omega)
      have h3 := fun (y : Nat) (c : BoundsCode) => bound_ok (P := P) w (k := k3) (i := 0) (y := y) (c := c) (by omega) (by omega)
      simp only [Int.toNat_zero] at h2 h3
      cases l with
      | none =>
        obtain rfl := hl
        simp [Instr.sliceAt, run_underlying hu, AV.conc, Cl.conc, Instr.slice, Instr.sliceBounds, sizeOf, typeInfo, hi', hsz, h2, h3]
      | some L =>
        obtain ⟨k, rfl⟩ := hl
        simp only [Option.getD_some] at e1
        subst e1
        have h1 := fun (y : Nat) (c : BoundsCode) => bound_ok (P := P) w (k := k) (i := 0) (y := y) (c := c) (by omega) (by omega)
        simp only [Int.toNat_zero] at h1
        simp [Instr.sliceAt, run_underlying hu, AV.conc, Cl.conc, Instr.slice, Instr.sliceBounds, sizeOf, typeInfo, hi', hsz, h1, h2, h3]
    · cases hs
  · rename_i sx
    split at hs
    · split at hs
      case isFalse => cases hs
      rename_i hc
      obtain ⟨hst, h0, h1'⟩ := hc
      have hu := hd.str hst
      simp at hs; subst hs
      obtain rfl := hhi
      obtain rfl := hm
      refine ⟨?_, trivial⟩
      cases l with
      | none =>
        obtain rfl := hl
        simp [Instr.sliceAt, run_underlying hu, AV.conc, Cl.conc, PC.conc, Instr.slice, Instr.sliceBounds]
      | some L =>
        obtain ⟨k, rfl⟩ := hl
        simp only [Option.getD_some] at h0 h1'
        have h1 := bound_ok (P := P) w (k := k) (c := .sliceB) h0 h1'
        simp [Instr.sliceAt, run_underlying hu, AV.conc, Cl.conc, PC.conc, Instr.slice, Instr.sliceBounds, h1]
    · rename_i H1
      split at hs
      case isFalse => cases hs
      rename_i hc
      obtain ⟨hst, h0, h1', h2'⟩ := hc
      have hu := hd.str hst
      simp at hs; subst hs
      obtain ⟨k2, rfl⟩ := hhi
      obtain rfl := hm
      refine ⟨?_, trivial⟩
      have h2 := bound_ok (P := P) w (k := k2) (i := H1) (y := sx.size) (c := .sliceAlen) (by omega) h2'
      cases l with
      | none =>
        obtain rfl := hl
        simp [Instr.sliceAt, run_underlying hu, AV.conc, Cl.conc, PC.conc, Instr.slice, Instr.sliceBounds, h2]
      | some L =>
        obtain ⟨k, rfl⟩ := hl
        simp only [Option.getD_some] at h0 h1'
        have h1 := bound_ok (P := P) w (k := k) (i := L) (y := H1.toNat) (c := .sliceB) h0 (by omega)
        simp [Instr.sliceAt, run_underlying hu, AV.conc, Cl.conc, PC.conc, Instr.slice, Instr.sliceBounds, h1, h2]
    · cases hs
  · cases hs

theorem map_toList' {α β : Type} (f : α → β) (x : Array α) : (x.toList.map f).toArray = x.map f := by
  apply Array.ext'; simp

theorem fill_congr {p q : Nat → Option (Nat × Nat)} (h : ∀ i, p i = q i) (cells : Array Value) (l : List (Nat × Value)) : Instr.fill p cells l = Instr.fill q cells l := by
  rw [funext h]

theorem ptrsOf_ok {l : List AV} {qs : List Pt} (h : ptrsOf l = some qs) (ρ : List Blk) (G : List Addr) :
    l.map (AV.conc ρ G) = qs.map (Pt.conc ρ G) ∧ ∀ n, (∀ y ∈ l, y.wf n) → ∀ q ∈ qs, q.wf n := by
  induction l generalizing qs with
  | nil => simp [ptrsOf] at h; subst h; simp
  | cons a r ih =>
    cases a with
    | agg xs => simp [ptrsOf] at h
    | c x =>
      cases x <;> simp only [ptrsOf] at h <;> try (cases h; done)
      split at h
      · rename_i l' hl
        simp at h; subst h
        obtain ⟨h1, h2⟩ := ih hl
        refine ⟨by simp only [List.map_cons, h1, AV.conc, Cl.conc], fun n hn q hq => ?_⟩
        rcases List.mem_cons.1 hq with rfl | hq
        · exact hn _ (List.mem_cons_self ..)
        · exact h2 n (fun y hy => hn y (List.mem_cons_of_mem _ hy)) q hq
      · cases h

set_option maxHeartbeats 1000000 in
theorem doOp_wp {T : Tab} {O : Orc} {G : List Addr} {g : Gv} (hT : ∀ t d, T t = some d → TdOk P t d) (hO : Sound P O) (hG : GV G g w0)
    {ρ : List Blk} {env : Env} {h h' : Heap} {a : Act} {w : World} (hE : ER ρ G env a.tmps) (H : HR w0 ρ h w) {o : Oper} {v : Option SV}
    (hd : doOp T O g env h o.op = some (v, h')) {next : Act → World → Prop} {Q : Exit → Act → World → Prop}
    (hn : ∀ ρ' x w', Behind w0 ρ G h' v ρ' x w' → next (a.put o.dst x) w') : o.wp P a w next Q := by
  cases hop : o.op <;> simp only [hop, doOp] at hd <;> try (cases hd; done)
  case move x =>
    split at hd
    · rename_i s hs
      simp at hd; obtain ⟨rfl, rfl⟩ := hd
      have h1 := hE.opd hs
      exact wp_of_value (x := a.eval x) (by simp [execOp, hop]) (hn ρ _ w (Behind.same H h1.1 h1.2))
    · cases hd
  case assign x =>
    split at hd
    · rename_i s hs
      simp at hd; obtain ⟨rfl, rfl⟩ := hd
      have h1 := hE.opd hs
      exact wp_of_value (x := a.eval x) (by simp [execOp, hop]) (hn ρ _ w (Behind.same H h1.1 h1.2))
    · cases hd
  case pick c x y =>
    split at hd
    · rename_i t ht
      have hc := hE.opdP ht
      split at hd
      · rename_i s hs
        simp at hd; obtain ⟨rfl, rfl⟩ := hd
        cases t
        · have h1 := hE.opd (x := y) (by simpa using hs)
          exact wp_of_value (x := a.eval y) (by simp [execOp, hop, hc, PC.conc, asBool]) (hn ρ _ w (Behind.same H h1.1 h1.2))
        · have h1 := hE.opd (x := x) (by simpa using hs)
          exact wp_of_value (x := a.eval x) (by simp [execOp, hop, hc, PC.conc, asBool]) (hn ρ _ w (Behind.same H h1.1 h1.2))
      · cases hd
    · cases hd
  case alloc t =>
    split at hd
    · rename_i d hT'
      split at hd
      · rename_i hz0
        simp at hd; obtain ⟨rfl, rfl⟩ := hd
        have hd' := hT t d hT'
        have hz := hd'.zero hz0 w
        have hcells : (if d.agg then aggOf d.zero else (d.zero.getD 0 (.bool false)).conc).cells = (d.zero.map PC.conc).toArray := by
          cases ha : d.agg with
          | true => simp [aggOf, Value.cells]
          | false =>
            have h1 := hd'.one hz0 ha
            match hz : d.zero, h1 with
            | [c], _ => simp [PC.cells_conc]
        refine wp_of_value (x := .pointer (some ⟨w.heap.size, 0, none⟩)) (w' := w.alloc (.cells (d.zero.map PC.conc).toArray t)) ?_ (hn (ρ ++ [⟨w.heap.size, d.zero.length, true⟩]) _ _ ⟨Lq.app _ _, H.push0 d.zero t, ?_⟩)
        · simp only [execOp, hop, Instr.alloc, Sem.run_bind, hz, Result.andThen_ok, newVar, newRow, hcells, run_newObj, Sem.run_pure]
          rfl
        · intro s e
          obtain rfl := Option.some.inj e
          exact ptr_new H.len
      · cases hd
    · cases hd
  case box t x =>
    split at hd
    · rename_i b hb
      split at hd
      · rename_i cs hcs
        simp at hd; obtain ⟨rfl, rfl⟩ := hd
        have h1 := hE.opdA hb
        have hc := cellsOf_conc hcs ρ G
        refine wp_of_value (x := .pointer (some ⟨w.heap.size, 0, none⟩)) (w' := w.alloc (.cells (cs.map PC.conc).toArray t)) ?_ (hn (ρ ++ [⟨w.heap.size, cs.length, true⟩]) _ _ ⟨Lq.app _ _, H.push0 cs t, ?_⟩)
        · simp only [execOp, hop, Instr.box, Sem.run_bind, h1.1, newVar, newRow, hc, run_newObj, Sem.run_pure, Result.andThen_ok]
          rfl
        · intro s e
          obtain rfl := Option.some.inj e
          exact ptr_new H.len
      · cases hd
    · cases hd
  case load t x =>
    split at hd
    · rename_i i q d hx hTd
      have h1 := hE.opdA hx
      have hd' := hT t d hTd
      split at hd
      · rename_i cs hcs
        split at hd
        · rename_i hagg
          split at hd
          · rename_i hle
            simp at hd; obtain ⟨rfl, rfl⟩ := hd
            have hl := run_loadCells_list (P := P) w ⟨(blk ρ i).b, q, none⟩ (((cs.drop q).take d.size).map PC.conc) (fun j v hv => by
              rw [add_lit]
              simp only [List.getElem?_map, Option.map_eq_some_iff] at hv
              obtain ⟨c, hc, rfl⟩ := hv
              rw [List.getElem?_take] at hc
              split at hc
              · rw [List.getElem?_drop] at hc
                exact own_cell H hcs hc
              · cases hc)
            have hlen : (((cs.drop q).take d.size).map PC.conc).length = d.size := by simp; omega
            rw [hlen] at hl
            refine wp_of_value (x := aggOf ((cs.drop q).take d.size)) ?_ (hn ρ _ w (Behind.same H rfl trivial))
            simp only [execOp, hop, h1.1, AV.conc, Cl.conc, Pt.conc, Pt.addr, Instr.loadAt, Instr.sureAddr, loadVar, Sem.run_bind, Sem.run_pure, Result.andThen_ok, hd'.isAgg, hagg, if_true, hd'.sizeOf, hl, aggOf]
          · cases hd
        · rename_i hagg
          split at hd
          · rename_i c hc
            simp at hd; obtain ⟨rfl, rfl⟩ := hd
            have hcell := own_cell H hcs hc
            refine wp_of_value (x := c.conc) ?_ (hn ρ _ w (Behind.same H rfl trivial))
            simp only [execOp, hop, h1.1, AV.conc, Cl.conc, Pt.conc, Pt.addr, Instr.loadAt, Instr.sureAddr, loadVar, Sem.run_bind, Sem.run_pure, Result.andThen_ok, hd'.isAgg, hagg, if_false, run_load, hcell, Bool.false_eq_true]
          · cases hd
      · cases hd
    · rename_i j d hx hTd
      have h1 := hE.opdA hx
      have hd' := hT t d hTd
      split at hd
      · cases hd
      · rename_i hagg
        split at hd
        · rename_i c hc
          simp at hd; obtain ⟨rfl, rfl⟩ := hd
          have hcell := ((hG.gr.later H.below).cell j c hc).1
          refine wp_of_value (x := c.conc) ?_ (hn ρ _ w (Behind.same H rfl trivial))
          simp only [execOp, hop, h1.1, AV.conc, Cl.conc, Pt.conc, Pt.addr, Instr.loadAt, Instr.sureAddr, loadVar, Sem.run_bind, Sem.run_pure, Result.andThen_ok, hd'.isAgg, hagg, if_false, run_load, hcell, Bool.false_eq_true]
        · cases hd
    · rename_i ad d hx hTd
      have h1 := hE.opdA hx
      have hd' := hT t d hTd
      split at hd
      · rename_i hagg
        split at hd
        · rename_i cs hcs
          simp at hd; obtain ⟨rfl, rfl⟩ := hd
          obtain ⟨hlen, hat⟩ := cellsAt_ok hcs
          have hl := run_loadCells_list (P := P) w ad (cs.map PC.conc) (fun j v hv => by
            simp only [List.getElem?_map, Option.map_eq_some_iff] at hv
            obtain ⟨c, hc, rfl⟩ := hv
            have := hat j c hc
            rw [Nat.zero_add] at this
            exact ((hG.mr.later H.below).cell _ _ this).1)
          have hl2 : (cs.map PC.conc).length = d.size := by simpa using hlen
          rw [hl2] at hl
          refine wp_of_value (x := aggOf cs) ?_ (hn ρ _ w (Behind.same H rfl trivial))
          simp only [execOp, hop, h1.1, AV.conc, Cl.conc, Pt.conc, Pt.addr, Instr.loadAt, Instr.sureAddr, loadVar, Sem.run_bind, Sem.run_pure, Result.andThen_ok, hd'.isAgg, hagg, if_true, hd'.sizeOf, hl, aggOf]
        · cases hd
      · rename_i hagg
        split at hd
        · rename_i c hc
          simp at hd; obtain ⟨rfl, rfl⟩ := hd
          have hcell := ((hG.mr.later H.below).cell _ _ hc).1
          refine wp_of_value (x := c.conc) ?_ (hn ρ _ w (Behind.same H rfl trivial))
          simp only [execOp, hop, h1.1, AV.conc, Cl.conc, Pt.conc, Pt.addr, Instr.loadAt, Instr.sureAddr, loadVar, Sem.run_bind, Sem.run_pure, Result.andThen_ok, hd'.isAgg, hagg, if_false, run_load, hcell, Bool.false_eq_true]
        · cases hd
    · cases hd
  case store t x y =>
    split at hd
    · rename_i i q b d hx hy hTd
      have h1 := hE.opdA hx
      have h2 := hE.opdA hy
      have hd' := hT t d hTd
      split at hd
      · rename_i cs new hcs hnew
        split at hd
        · rename_i hle
          simp at hd; obtain ⟨rfl, rfl⟩ := hd
          have hc := cellsOf_conc hnew ρ G
          have h1' : a.eval x = .pointer (some ⟨(blk ρ i).b, q, none⟩) := h1.1
          have hsz : (AV.conc ρ G b).cells.size = d.size := by rw [hc]; simp [hle.1]
          have hsl : (splice cs q new).length = cs.length := by simp [splice]; omega
          obtain ⟨_, _, e, ex, he, hk⟩ := H.cell i cs hcs hle.2.2
          have hst := run_storeCells_atF (P := P) (blk ρ i).b q e.t e.f (new.map PC.conc) 0 (cs.map PC.conc ++ ex).toArray w (by have := e.ok; simpa [hk] using this) he (by simp; omega) (one_cells new)
          have hsp : ((cs.map PC.conc ++ ex).toArray.toList.take (q + 0) ++ new.map PC.conc ++ (cs.map PC.conc ++ ex).toArray.toList.drop (q + 0 + (new.map PC.conc).length)) = (splice cs q new).map PC.conc ++ ex := by
            have e1 : (new.map PC.conc).length = new.length := by simp
            simp only [Nat.add_zero, e1, splice, List.map_append, List.map_take, List.map_drop]
            rw [List.take_append_of_le_length (by simp; omega), List.drop_append_of_le_length (by simp; omega), List.append_assoc, List.append_assoc, List.append_assoc]
          rw [hsp] at hst
          have hst' : (storeCells ⟨(blk ρ i).b, q, none⟩ (AV.conc ρ G b).cells.toList).run P w = .ok () (w.setRow (blk ρ i).b ((splice cs q new).map PC.conc ++ ex).toArray) := by
            rw [hc]; exact hst
          refine wp_of_skip (w' := w.setRow (blk ρ i).b ((splice cs q new).map PC.conc ++ ex).toArray) ?_ (hn ρ _ _ ⟨Lq.refl ρ, H.set hcs hle.2.2 he hsl, fun s hs => by cases hs⟩)
          simp only [execOp, hop, h1', h2.1, Instr.storeAt, Instr.sureAddr, storeVar, Sem.run_bind, Sem.run_pure, Result.andThen_ok, hd'.sizeOf, hsz, ne_eq, not_true_eq_false, if_false, hst']
        · cases hd
      · cases hd
    · cases hd
  case binOp op t x y ty =>
    split at hd
    · rename_i b c hb hc
      split at hd
      · rename_i r hr
        simp at hd; obtain ⟨rfl, rfl⟩ := hd
        have h1 := hE.opdA hb
        have h2 := hE.opdA hc
        have hbin := bin_ok (w := w) (ρ := ρ) hT hr G x y
        refine wp_of_value (x := r.conc) ?_ (hn ρ _ w (Behind.same H rfl trivial))
        simp only [Sem.run_bind] at hbin
        simp only [execOp, hop, h1.1, h2.1, Sem.run_bind, hbin, Result.andThen_ok, Sem.run_pure]
      · cases hd
    · cases hd
  case unOp op t x =>
    split at hd
    · rename_i b hb
      split at hd
      · rename_i r hr
        simp at hd; obtain ⟨rfl, rfl⟩ := hd
        have h1 := hE.opdP hb
        refine wp_of_value (x := r.conc) ?_ (hn ρ _ w (Behind.same H rfl trivial))
        simp only [execOp, hop, h1, Sem.run_bind, un_ok hr, Result.andThen_ok, Sem.run_pure]
      · cases hd
    · cases hd
  case convert u t x =>
    split at hd
    · rename_i k' n du d hx hTu hTd
      split at hd
      · rename_i k hk
        simp at hd; obtain ⟨rfl, rfl⟩ := hd
        have h1 : a.eval x = .int k' n := (hE.opdA hx).1
        obtain ⟨uu, huu⟩ := (hT u du hTu).und
        have hcv := (hT t d hTd).conv k hk u uu huu k' n w
        refine wp_of_value (x := .int k (k.wrap n)) ?_ (hn ρ _ w (Behind.same H rfl trivial))
        simp only [execOp, hop, h1, Sem.run_bind, hcv, Result.andThen_ok, Sem.run_pure]
      · cases hd
    · rename_i s du d hx hTu hTd
      split at hd
      · rename_i r h2 hr
        simp at hd; obtain ⟨rfl, rfl⟩ := hd
        unfold byteF at hr
        split at hr
        · rename_i hc
          simp only [Option.some.injEq, Prod.mk.injEq] at hr
          obtain ⟨rfl, rfl⟩ := hr
          have h1 : a.eval x = .string s := (hE.opdA hx).1
          obtain ⟨uu, huu⟩ := (hT u du hTu).und
          obtain ⟨e, hue, he⟩ := (hT t d hTd).byt hc.2.1
          obtain ⟨ρ', hb⟩ := bytes_ok H G e s
          refine wp_of_value (x := .slice (some ⟨w.heap.size, 0, none⟩) s.size (grownCap w s.size 0 e)) (w' := Lib.bytesWorld w e s) ?_ (hn _ _ _ hb)
          simp only [execOp, hop, h1, Sem.run_bind, Lib.run_convert_string_bytes w u t e s huu hue he, Result.andThen_ok, Sem.run_pure]
        · cases hr
      · cases hd
    · rename_i b du d _ _ hx hTu hTd
      split at hd
      · rename_i r hr
        simp at hd; obtain ⟨rfl, rfl⟩ := hd
        obtain ⟨n, cs, hrc, hby, hst, l, hl, rfl⟩ := textF_out hr
        obtain ⟨ad, cp, hxc, hxl, hxn⟩ := rowCells_ok H hG.mr hrc G
        obtain ⟨e, hue, he⟩ := (hT u du hTu).byt hby
        have hud := (hT t d hTd).str hst
        have h1 := (hE.opdA hx).1
        refine wp_of_value (x := .string ⟨l.toArray⟩) ?_ (hn ρ _ w (Behind.same H rfl trivial))
        obtain ⟨ns, hns, hl2⟩ := bytesC_nums hl
        have hlc : (loadCells ad n).run P w = .ok (ns.map (Value.int .u8)).toArray w := by
          have := run_loadCells_list (P := P) w ad (ns.map (Value.int .u8)) (fun j v hj => hxn j v (by rw [hns]; exact hj))
          have hn2 : ns.length = n := by
            have := congrArg List.length hns
            simp at this; omega
          simpa [hn2] using this
        simp only [execOp, hop, h1, hxc, Sem.run_bind, run_convert_bytes_string w u t e (some ad) n cp hue he hud, run_bytesToString w ad n cp ns hlc, Result.andThen_ok, Sem.run_pure]
        rw [hl2, foldl_push_bytes]
        simp [ByteArray.empty, ByteArray.emptyWithCapacity]
        rfl
      · cases hd
    · cases hd
  case makeFunc fn first caps =>
    split at hd
    · rename_i f
      split at hd
      · rename_i hf
        split at hd
        · rename_i l hl
          have h1 := argsA_ok hE hl
          have hfirst : first = #[] := Array.eq_empty_of_size_eq_zero hf
          have hrun : (execOp a.eval o).run P w = .ok (.value (.func (.func f) #[] (l.map (AV.conc ρ G)).toArray)) w := by
            simp only [execOp, hop, Instr.makeFunc, Sem.run_bind, Sem.run_pure, Result.andThen_ok, hfirst]
            rw [← h1.1, map_toList']
            simp
          split at hd
          · rename_i hq
            simp at hd; obtain ⟨rfl, rfl⟩ := hd
            have h2 := ptrsOf_ok hq ρ G
            refine wp_of_value hrun (hn ρ _ w (Behind.same H ?_ trivial))
            rw [h2.1]; rfl
          · rename_i qs _ hq
            simp at hd; obtain ⟨rfl, rfl⟩ := hd
            have h2 := ptrsOf_ok hq ρ G
            refine wp_of_value hrun (hn ρ _ w (Behind.same H ?_ (h2.2 _ h1.2)))
            rw [h2.1]; rfl
          · cases hd
        · cases hd
      · cases hd
    · cases hd
  case nilCheck x =>
    split at hd
    · rename_i q hx
      simp at hd; obtain ⟨rfl, rfl⟩ := hd
      have h1 := hE.opdA hx
      refine wp_of_value (x := q.conc ρ G) ?_ (hn ρ _ w (Behind.same H rfl h1.2))
      have h1' : a.eval x = .pointer (some (q.addr ρ G)) := h1.1
      simp only [execOp, hop, h1', Sem.run_pure]
      rfl
    · cases hd
  case fieldAddr t x f =>
    split at hd
    · rename_i i q d hx hTd
      split at hd
      · rename_i off hoff
        simp at hd; obtain ⟨rfl, rfl⟩ := hd
        have h1 := hE.opdA hx
        have hf := (hT t d hTd).field f off hoff ((blk ρ i).b) q w
        refine wp_of_value (x := .pointer (some ⟨(blk ρ i).b, q + off, none⟩)) ?_ (hn ρ _ w (Behind.same H rfl h1.2))
        simp only [execOp, hop, h1.1, AV.conc, Cl.conc, Pt.conc, Pt.addr, Sem.run_bind, hf, Result.andThen_ok, Sem.run_pure]
      · cases hd
    · cases hd
  case field t x f =>
    split at hd
    · rename_i xs d hx hTd
      split at hd
      · rename_i c hc
        simp at hd; obtain ⟨rfl, rfl⟩ := hd
        simp only [Option.bind_eq_some_iff] at hc
        obtain ⟨q, hq, hxq⟩ := hc
        have h1 := hE.opdA hx
        have hf := (hT t d hTd).fieldV f q hq (xs.map PC.conc).toArray c.conc w (by simp [hxq])
        refine wp_of_value (x := c.conc) ?_ (hn ρ _ w (Behind.same H rfl trivial))
        have h1' : a.eval x = .agg (xs.map PC.conc).toArray := h1.1
        simp only [execOp, hop, h1', Sem.run_bind, hf, Result.andThen_ok, Sem.run_pure]
      · cases hd
    · cases hd
  case indexAddr t x ix =>
    split at hd
    · rename_i i o n z k j d hx hix hTd
      split at hd
      · rename_i hc
        simp at hd; obtain ⟨rfl, rfl⟩ := hd
        have h1 := hE.opdA hx
        have h2 := hE.opdP hix
        have hf := index_ok (hT t d hTd) hc.1 ⟨(blk ρ i).b, o, none⟩ n (((blk ρ i).k - o) / z) k j w hc.2.2.1 hc.2.2.2
        rw [add_lit, ← hc.2.1] at hf
        refine wp_of_value (x := .pointer (some ⟨(blk ρ i).b, o + j.toNat * z, none⟩)) ?_ (hn ρ _ w (Behind.same H rfl h1.2))
        have h1' : a.eval x = .slice (some ⟨(blk ρ i).b, o, none⟩) n (((blk ρ i).k - o) / z) := h1.1
        simp only [execOp, hop, h1', h2, PC.conc, Sem.run_bind, hf, Result.andThen_ok, Sem.run_pure]
      · cases hd
    · rename_i ad n c k j d hx hix hTd
      split at hd
      · rename_i hc
        simp at hd; obtain ⟨rfl, rfl⟩ := hd
        have h1 := hE.opdA hx
        have h2 := hE.opdP hix
        have hf := index_ok (hT t d hTd) hc.1 ad n c k j w hc.2.1 hc.2.2
        refine wp_of_value (x := .pointer (some (ad.add (j.toNat * d.ez1.length)))) ?_ (hn ρ _ w (Behind.same H rfl trivial))
        have h1' : a.eval x = .slice (some ad) n c := h1.1
        simp only [execOp, hop, h1', h2, PC.conc, Sem.run_bind, hf, Result.andThen_ok, Sem.run_pure]
      · cases hd
    · cases hd
  case index t x ix =>
    split at hd
    · rename_i xs k j d hx hix hTd
      split at hd
      · rename_i hc
        split at hd
        · rename_i c hcj
          simp at hd; obtain ⟨rfl, rfl⟩ := hd
          have h1 := hE.opdA hx
          have h2 := hE.opdP hix
          have hf := (hT t d hTd).index hc.1 hc.2.1 (xs.map PC.conc).toArray k j c.conc w hc.2.2.1 hc.2.2.2 (by simp [hcj])
          refine wp_of_value (x := c.conc) ?_ (hn ρ _ w (Behind.same H rfl trivial))
          have h1' : a.eval x = .agg (xs.map PC.conc).toArray := h1.1
          simp only [execOp, hop, h1', h2, PC.conc, Sem.run_bind, hf, Result.andThen_ok, Sem.run_pure]
        · cases hd
      · cases hd
    · rename_i s k j d hx hix hTd
      split at hd
      · rename_i hc
        split at hd
        · rename_i b hb
          simp at hd; obtain ⟨rfl, rfl⟩ := hd
          have h1 := hE.opdA hx
          have h2 := hE.opdP hix
          have hu := run_underlying ((hT t d hTd).str hc.1) w
          refine wp_of_value (x := .int .u8 b.toNat) ?_ (hn ρ _ w (Behind.same H rfl trivial))
          have h1' : a.eval x = .string s := h1.1
          simp only [execOp, hop, h1', h2, PC.conc, Instr.index, asIntOf, Sem.run_bind, hu, Result.andThen_ok, Sem.run_pure, hc.2, if_true, hb]
        · cases hd
      · cases hd
    · cases hd
  case build t parts =>
    split at hd
    · rename_i d ps hTd hps
      split at hd
      · rename_i hagg
        split at hd
        · rename_i cs hcs
          simp at hd; obtain ⟨rfl, rfl⟩ := hd
          have hp := partsP_ok hE hps
          have hf := fillP_ok hcs
          have hb := (hT t d hTd).build hagg.1 hagg.2 (parts.map fun (i, x) => (i, a.eval x)) (cs.map PC.conc).toArray w (by
            rw [Array.toList_map, hp]
            rw [← hf]
            apply fill_congr
            intro i
            cases d.cells <;> simp)
          refine wp_of_value (x := aggOf cs) ?_ (hn ρ _ w (Behind.same H rfl trivial))
          simp only [execOp, hop, Sem.run_bind, hb, Result.andThen_ok, Sem.run_pure, aggOf]
        · cases hd
      · cases hd
    · cases hd
  case buildSlice t n parts =>
    split at hd
    · rename_i d ps hTd hps
      split at hd
      · rename_i hc
        split at hd
        · rename_i cs hcs
          simp at hd; obtain ⟨rfl, rfl⟩ := hd
          have hp := partsA_ok hE hps
          have hd' := hT t d hTd
          obtain ⟨_, _, _, _, _, _, _, _, hpos, _, _⟩ := hd'.row hc.1
          have hp2 : Parts ps (parts.map fun (i, x) => (i, a.eval x)).toList := by rw [Array.toList_map]; exact hp
          obtain ⟨e, hb⟩ := buildSlice_ok hd' hc.1 hc.2 hp2 hcs w
          have hlen := fillR_len hcs
          have hl2 : cs.length = n * d.ez1.length := by rw [hlen]; simp
          have hP := H.push0 cs e
          rw [hl2] at hP
          refine wp_of_value (x := .slice (some ⟨w.heap.size, 0, none⟩) n n) (w' := w.alloc (.cells (cs.map PC.conc).toArray e)) ?_ (hn _ _ _ ⟨Lq.app _ _, hP, ?_⟩)
          · simp only [execOp, hop, Sem.run_bind, hb, Result.andThen_ok, Sem.run_pure]
          · intro s es
            obtain rfl := Option.some.inj es
            exact row_new H.len hpos
        · cases hd
      · cases hd
    · cases hd
  case makeSlice t ln cp =>
    split at hd
    · rename_i d l c hTd hl hcp
      split at hd
      · rename_i hc
        simp at hd; obtain ⟨rfl, rfl⟩ := hd
        obtain ⟨hrow, rfl, h0, h1⟩ := hc
        have hd' := hT t d hTd
        obtain ⟨e, i, z, hu, hi, hz, hsz, hzc, hpos, hby, h64⟩ := hd'.row hrow
        have el : ∃ k, a.eval ln = .int k l := by
          unfold intO at hl
          split at hl
          · rename_i k n he; simp at hl; subst hl; exact ⟨k, hE.opdP he⟩
          · cases hl
        have ec : ∃ k, a.eval cp = .int k l := by
          unfold intO at hcp
          split at hcp
          · rename_i k n he; simp at hcp; subst hcp; exact ⟨k, hE.opdP he⟩
          · cases hcp
        obtain ⟨k1, e1⟩ := el
        obtain ⟨k2, e2⟩ := ec
        have hP := H.push0 ((List.replicate l.toNat d.ez1).flatten) e
        have hlen : ((List.replicate l.toNat d.ez1).flatten).length = l.toNat * d.ez1.length := by simp
        rw [hlen] at hP
        have hrn := row_new (G := G) (b := w.heap.size) (n := l.toNat) H.len hpos
        refine wp_of_value (x := .slice (some ⟨w.heap.size, 0, none⟩) l.toNat l.toNat) (w' := w.alloc (.cells (((List.replicate l.toNat d.ez1).flatten).map PC.conc).toArray e)) ?_ (hn _ _ _ ⟨Lq.app _ _, hP, ?_⟩)
        · have hb : (i.bytes : Int) * l ≤ 281474976710656 := by
            have h1 : (i.bytes : Int) * l ≤ 64 * l := Int.mul_le_mul_of_nonneg_right (by omega) h0
            omega
          have hsm : l.toNat * d.ez1.length ≤ 16777216 * 4 := by
            have := Nat.mul_le_mul (show l.toNat ≤ 1048576 by omega) h64
            omega
          have hr := run_make (P := P) w t e i z hu hi hz k1 k2 l l h0 (Int.le_refl _) hb (by omega)
          have hmc : madeCells z.cells (l.toNat * i.size) = (((List.replicate l.toNat d.ez1).flatten).map PC.conc).toArray := by
            rw [hsz, hzc]
            exact range_zero hpos l.toNat
          rw [hmc] at hr
          simp only [execOp, hop, e1, e2, Sem.run_bind, Sem.run_pure, Result.andThen_ok, hr]
        · intro s es
          obtain rfl := Option.some.inj es
          have e0 : (l = 0) = (l.toNat = 0) := by
            apply propext; constructor <;> intro h <;> omega
          simp only [e0]
          exact hrn
      · cases hd
    · cases hd
  case slice t x lo hi mx =>
    split at hd
    · rename_i d b l hh m hTd hb hlo hhi hmx
      split at hd
      · rename_i r hr
        simp at hd; obtain ⟨rfl, rfl⟩ := hd
        have h1 := hE.opdA hb
        have hs := slice_ok H (hT t d hTd) h1.2 (optI_ok hE hlo) (optI_ok hE hhi) (optI_ok hE hmx) hr G
        refine wp_of_value (x := r.conc ρ G) ?_ (hn ρ _ w (Behind.same H rfl hs.2))
        simp only [execOp, hop, h1.1, Sem.run_bind, hs.1, Result.andThen_ok, Sem.run_pure]
      · cases hd
    · cases hd
  case extract x j =>
    split at hd
    · rename_i xs hx
      split at hd
      · rename_i b hb
        simp at hd; obtain ⟨rfl, rfl⟩ := hd
        have h1 := hE.opd hx
        refine wp_of_value (x := b.conc ρ G) ?_ (hn ρ _ w (Behind.same H rfl (h1.2 b (List.mem_of_getElem? hb))))
        have h1' : a.eval x = .tuple (xs.map (AV.conc ρ G)).toArray := h1.1
        simp [execOp, hop, h1', Instr.extract, hb]
      · cases hd
    · cases hd
  case call c =>
    split at hd
    · rename_i f hf
      split at hd
      · rename_i fa hfa
        split at hd
        · rename_i k caps args hk hargs
          split at hd
          · rename_i r h2 hcall
            simp at hd; obtain ⟨rfl, rfl⟩ := hd
            have hv := hE.opdA hfa
            have ha := argsA_ok hE hargs
            -- the function value
            have hfv : a.eval f = .func (.func k) #[] (caps.map (Pt.conc ρ G)).toArray := by
              rw [hv.1]
              unfold callee at hk
              split at hk
              · simp at hk; obtain ⟨rfl, rfl⟩ := hk; rfl
              · simp at hk; obtain ⟨rfl, rfl⟩ := hk; rfl
              · cases hk
            unfold callF at hcall
            split at hcall
            · -- a function that turns boxes
              rename_i M hM
              split at hcall
              · rename_i pre r0 h1 hO1
                split at hcall
                · rename_i hpre
                  simp at hcall
                  obtain ⟨rfl, rfl⟩ := hcall
                  have hMn := hO.m k M hM
                  have hargs' : (args.map (AV.conc ρ G)).toArray ++ (caps.map (Pt.conc ρ G)).toArray = ((args ++ caps.map fun q => AV.c (.ptr q)).map (AV.conc ρ G)).toArray := by
                    rw [List.map_append]
                    simp [Function.comp_def, AV.conc, Cl.conc]
                  have hrun : (execOp a.eval o).run P w = (callFunc k ((args ++ caps.map fun q => AV.c (.ptr q)).map (AV.conc ρ G)).toArray).run P w := by
                    simp only [execOp, hop, resolve, hf, Deferred.ofValue, hfv, Sem.run_bind, Sem.run_pure, Result.andThen_ok, invoke]
                    rw [← hargs', ← ha.1, map_toList' a.eval c.args, Array.empty_append]
                  have hwf : ∀ x ∈ args ++ caps.map fun q => AV.c (.ptr q), x.wf ρ := by
                    intro x hx
                    rcases List.mem_append.1 hx with hx | hx
                    · exact ha.2 x hx
                    · obtain ⟨q, hq, rfl⟩ := List.mem_map.1 hx
                      have hw := hv.2
                      unfold callee at hk
                      split at hk
                      · simp at hk; obtain ⟨_, rfl⟩ := hk; cases hq
                      · simp at hk; obtain ⟨_, rfl⟩ := hk; exact hw q hq
                      · cases hk
                  unfold Oper.wp
                  rw [hrun, hMn.enters]
                  refine (hMn.calls g.m _ h pre r0 h1 hO1 hpre w0 ρ G w H hG.mr hwf).mono ?_
                  rintro e w' ⟨ρ', rfl, hle, hHR, hres⟩
                  refine hn ρ' _ w' ⟨hle, hHR, fun s es => ?_⟩
                  obtain rfl := Option.some.inj es
                  exact ⟨rfl, hres⟩
                · cases hcall
              · cases hcall
            split at hcall
            · rename_i l g' htr
              obtain ⟨B, hB1, hB2, hB3, hB4⟩ := trArgs_ok H hG _ [] [] l g' htr rfl (GR.nil _ (hG.gr.tabs.later H.below))
              have hB1' := hB1 []
              simp only [List.append_nil, List.nil_append] at hB1' hB2 hB3
              have hargs' : (args.map (AV.conc ρ G)).toArray ++ (caps.map (Pt.conc ρ G)).toArray = (l.map (AV.conc [] B)).toArray := by
                rw [hB1', List.map_append]
                simp [Function.comp_def, AV.conc, Cl.conc]
              have hrun : (execOp a.eval o).run P w = (callFunc k (l.map (AV.conc [] B)).toArray).run P w := by
                simp only [execOp, hop, resolve, hf, Deferred.ofValue, hfv, Sem.run_bind, Sem.run_pure, Result.andThen_ok, invoke]
                rw [← hargs', ← ha.1, map_toList' a.eval c.args, Array.empty_append]
              split at hcall
              · rename_i pre r0 new hO1
                split at hcall
                · rename_i hpre
                  rcases hO.f k l g' _ hO1 with hFn | hExt
                  rotate_left
                  · obtain ⟨rfl, hres, hcal⟩ := hExt l g' pre r0 new hO1 hpre B w hB3
                    simp [grow] at hcall; obtain ⟨rfl, rfl⟩ := hcall
                    refine wp_of_value (x := r0.conc [] B) (w' := w) (by rw [hrun, hcal]) (hn ρ _ w ⟨Lq.refl ρ, H, fun s es => ?_⟩)
                    obtain rfl := Option.some.inj es
                    exact ⟨res_zero_conc hres, res_wf hres⟩
                  have finish : (∀ σ w', HR w σ new w' → r0.res new → next (a.put o.dst (r0.conc σ B)) w') → o.wp P a w next Q := by
                    intro hK
                    unfold Oper.wp
                    rw [hrun, hFn.enters]
                    refine (hFn.calls l g' pre r0 new hO1 hpre hB4 B w hB3).mono ?_
                    rintro e w' ⟨σ, rfl, hHR, hres⟩
                    exact hK σ w' hHR hres
                  cases new with
                  | nil =>
                    simp [grow] at hcall; obtain ⟨rfl, rfl⟩ := hcall
                    refine finish fun σ w' K hres => ?_
                    have hσ : σ = [] := List.eq_nil_of_length_eq_zero (by rw [K.len]; rfl)
                    subst hσ
                    refine hn ρ _ w' ⟨Lq.refl ρ, by simpa using HR.called H K, fun s es => ?_⟩
                    obtain rfl := Option.some.inj es
                    exact ⟨res_zero_conc hres, res_wf hres⟩
                  | cons b bs =>
                    simp [grow] at hcall; obtain ⟨rfl, rfl⟩ := hcall
                    refine finish fun σ w' K hres => ?_
                    refine hn (ρ ++ σ) _ w' ⟨Lq.app ρ σ, HR.called H K, fun s es => ?_⟩
                    obtain rfl := Option.some.inj es
                    rw [← H.len]
                    exact ⟨(SV.up_conc hres).symm, SV.up_wf (fun i hi => K.ok hi) hres⟩
                · cases hcall
              · cases hcall
            · cases hcall
          · cases hd
        · cases hd
      · cases hd
    · rename_i hcal
      split at hd
      · rename_i b d hargs hTd
        split at hd
        · rename_i n hn0
          simp at hd; obtain ⟨rfl, rfl⟩ := hd
          have ha := argsA_ok hE hargs
          simp only [Option.bind_eq_some_iff] at hTd
          obtain ⟨t, ht, hTd⟩ := hTd
          have hd' := hT t d hTd
          have hargs2 : c.args.map a.eval = #[b.conc ρ G] := by
            apply Array.ext'
            rw [Array.toList_map, ha.1]; rfl
          refine wp_of_value (x := .int .i64 n) ?_ (hn ρ _ w (Behind.same H rfl trivial))
          have hlen : (Builtin.len_ c.argTypes o.type (c.args.map a.eval)).run P w = .ok (.int .i64 n) w := by
            rw [hargs2]
            unfold lenF at hn0
            split at hn0
            · split at hn0
              · rename_i hr
                obtain ⟨e, i, z, hu, _⟩ := hd'.row hr
                simp at hn0; subst hn0
                simp [Builtin.len_, ht, run_underlying hu, AV.conc, Cl.conc, PC.conc, goInt]
              · cases hn0
            · split at hn0
              · rename_i hr
                obtain ⟨e, i, z, hu, _⟩ := hd'.row hr
                simp at hn0; subst hn0
                simp [Builtin.len_, ht, run_underlying hu, AV.conc, Cl.conc, PC.conc, goInt]
              · cases hn0
            · split at hn0
              · rename_i hr
                obtain ⟨e, i, z, hu, _⟩ := hd'.row hr
                simp at hn0; subst hn0
                simp [Builtin.len_, ht, run_underlying hu, AV.conc, Cl.conc, PC.conc, goInt]
              · cases hn0
            · split at hn0
              · rename_i hr
                have hu := hd'.str hr
                simp at hn0; subst hn0
                simp [Builtin.len_, ht, run_underlying hu, AV.conc, Cl.conc, PC.conc, goInt]
              · cases hn0
            · cases hn0
          simp only [execOp, hop, resolve, hcal, Sem.run_bind, Sem.run_pure, Result.andThen_ok, invoke, builtin, hlen]
        · cases hd
      · cases hd
    · rename_i hcal
      split at hd
      · rename_i b x t t' hargs htys
        split at hd
        · rename_i d hTd
          split at hd
          · rename_i hc
            split at hd
            · rename_i m new hrc
              split at hd
              · rename_i r h1 happ
                simp at hd; obtain ⟨rfl, rfl⟩ := hd
                obtain ⟨hrow, rfl⟩ := hc
                have ha := argsA_ok hE hargs
                have hd' := hT _ d hTd
                have hargs2 : c.args.map a.eval = #[b.conc ρ G, x.conc ρ G] := by
                  apply Array.ext'
                  rw [Array.toList_map, ha.1]; rfl
                have htys2 : c.argTypes = #[t', t'] := by
                  apply Array.ext'; rw [htys]
                obtain ⟨ad, cp, hxc, hxl, hxn⟩ := rowCells_ok H hG.mr hrc G
                obtain ⟨ρ', v, w', hr, hb⟩ := app_ok (c := cp) H hd' hrow happ hxn G o.type
                refine wp_of_value (x := v) (w' := w') ?_ (hn ρ' _ w' hb)
                simp only [execOp, hop, resolve, hcal, Sem.run_bind, Sem.run_pure, Result.andThen_ok, invoke, builtin, hargs2, htys2, hxc, hr]
              · cases hd
            · cases hd
          · cases hd
        · cases hd
      · cases hd
    · rename_i b hb1 hb2 hb
      split at hd
      · rename_i args hargs
        split at hd
        · rename_i r hr
          simp at hd; obtain ⟨rfl, rfl⟩ := hd
          have ha := argsA_ok hE hargs
          refine wp_of_value (x := r.conc) ?_ (hn ρ _ w (Behind.same H rfl trivial))
          unfold builtinF at hr
          have hmap : ∀ (x : PC) (xs : List PC), allP args = some (x :: xs) → (c.args.map a.eval).toList = x.conc :: xs.map PC.conc := by
            intro x xs hx
            rw [Array.toList_map, ha.1, allP_conc hx]
            rfl
          split at hr
          · split at hr
            · rename_i x xs hx
              have := foldlM_ok (w := w) (P := P) (F := Builtin.max2) (fun x y z hz => by
                cases x <;> cases y <;> simp [max2] at hz
                subst hz
                simp [Builtin.max2, PC.conc]) xs x r hr
              simp only [execOp, hop, resolve, hb, Sem.run_bind, Sem.run_pure, Result.andThen_ok, invoke, builtin, Builtin.max_, hmap x xs hx, this]
            · cases hr
          · split at hr
            · rename_i x xs hx
              have := foldlM_ok (w := w) (P := P) (F := Builtin.min2) (fun x y z hz => by
                cases x <;> cases y <;> simp [min2] at hz
                subst hz
                simp [Builtin.min2, PC.conc]) xs x r hr
              simp only [execOp, hop, resolve, hb, Sem.run_bind, Sem.run_pure, Result.andThen_ok, invoke, builtin, Builtin.min_, hmap x xs hx, this]
            · cases hr
          · cases hr
        · cases hd
      · cases hd
    · cases hd
end
end Go.Proofs.YtcnapkdccjibpaaGreatDoor.Eng
