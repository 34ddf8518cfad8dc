/- Regions: one whose order stands, and one that draws its order. -/
import Derived.Test.YtnkdmdjnnbkfgaaGreatEng5
namespace Go.Proofs.YtnkdmdjnnbkfgaaGreat.Eng
open Go Go.RowKit
set_option linter.unusedVariables false
set_option linter.unusedSimpArgs false

section
variable {P : Program} {w0 : World}

/-- The state told stands in the machine. -/
structure SR (w0 : World) (G : List Addr) (nt : Nat) (ρ : List Nat) (env : Env) (h : Heap) (a : Act) (w : World) : Prop where
  er : ER ρ G env a.tmps
  hr : HR w0 ρ h w
  size : a.tmps.size = nt
  defers : a.defers = []

theorem goes_ok {G : List Addr} {ρ : List Nat} {env : Env} {tmps : Array Value} (hE : ER ρ G env tmps) {ops : Array Oper} {o : Oper} {b : Bool} (hg : goes env ops o = some b) :
    Region.wanted o (yielded ops tmps) = b := by
  unfold goes at hg
  unfold Region.wanted
  split at hg
  · rename_i h0
    simp at hg; subst hg
    simp [h0]
  · rename_i j want h0
    split at hg
    · rename_i d hd
      split at hg
      · rename_i t ht
        simp at hg; subst hg
        have := hE.at_ d _ ht
        simp only [h0]
        have hy : yielded ops tmps j = some t := by
          unfold yielded
          rw [hd]
          simp [this, SV.conc, AV.conc, Cl.conc, PC.conc]
        rw [hy]
        simp
      · rename_i ht
        simp at hg; subst hg
        have := hE.at_ d _ ht
        simp only [h0]
        have hy : yielded ops tmps j = none := by
          unfold yielded
          rw [hd]
          simp [this, SV.conc]
        rw [hy]
        simp
      · cases hg
    · cases hg

theorem put_step {G : List Addr} {nt : Nat} {ρ σ : List Nat} {env : Env} {h h' : Heap} {a : Act} {w w' : World} (S : SR w0 G nt ρ env h a w) {o : Oper} (ho : ∀ d, o.dst = some d → d < nt) {v : Option SV} {x : Value}
    (hb : Behind w0 ρ G h' v σ x w') : SR w0 G nt (ρ ++ σ) (putE env o.dst v) h' (a.put o.dst x) w' where
  er := S.er.grow.put (fun t ht => by rw [S.size]; exact ho t ht) hb.2
  hr := hb.1
  size := by rw [put_size, S.size]
  defers := by rw [put_defers, S.defers]

theorem put_undef {G : List Addr} {nt : Nat} {ρ : List Nat} {env : Env} {h : Heap} {a : Act} {w : World} (S : SR w0 G nt ρ env h a w) {o : Oper} (ho : ∀ d, o.dst = some d → d < nt) :
    SR w0 G nt ρ (putE env o.dst (some (.tup []))) h (a.put o.dst undef) w where
  er := S.er.put (fun t ht => by rw [S.size]; exact ho t ht) (fun s hs => by
    obtain rfl := Option.some.inj hs
    exact ⟨rfl, fun x hx => by cases hx⟩)
  hr := S.hr
  size := by rw [put_size, S.size]
  defers := by rw [put_defers, S.defers]

theorem doOps_wp {T : Tab} {O : Orc} {G : List Addr} {g : List PC} {nt : Nat} (hT : ∀ t d, T t = some d → TdOk P t d) (hO : Sound P O) (hG : GR G g w0)
    {all : Array Oper} (hd : ∀ o ∈ all, ∀ d, o.dst = some d → d < nt) {Q : Exit → Act → World → Prop} :
    ∀ (l : List Oper) (k : Nat), all.toList.drop k = l → ∀ (s s' : St) (ρ : List Nat) (a : Act) (w : World), SR w0 G nt ρ s.env s.heap a w →
      doOps T O g all l s = some s' → (∀ ρ' a' w', SR w0 G nt ρ' s'.env s'.heap a' w' → Q .normal a' w') →
      wpOps P all Q (List.range' k l.length) a w
  | [], k, hl, s, s', ρ, a, w, S, hs, hQ => by
    simp [doOps] at hs; subst hs
    exact hQ ρ a w S
  | o :: r, k, hl, s, s', ρ, a, w, S, hs, hQ => by
    have hk : all[k]? = some o := by
      have h1 : (all.toList.drop k)[0]? = some o := by rw [hl]; rfl
      simpa using h1
    have hr : all.toList.drop (k + 1) = r := by
      rw [← List.drop_drop, hl]; rfl
    have ho := hd o (Array.mem_of_getElem? hk)
    simp only [List.length_cons, List.range'_succ, wpOps, hk]
    simp only [doOps] at hs
    split at hs
    · rename_i hg
      rw [goes_ok S.er hg]
      split at hs
      · rename_i v h' hop
        refine .inl (doOp_wp hT hO hG S.er S.hr hop fun σ x w' hb => ?_)
        exact doOps_wp hT hO hG hd r (k + 1) hr _ s' (ρ ++ σ) _ w' (put_step S ho hb) hs hQ
      · cases hs
    · rename_i hg
      rw [goes_ok S.er hg]
      simp only [Bool.false_eq_true, if_false]
      exact doOps_wp hT hO hG hd r (k + 1) hr _ s' ρ _ w (put_undef S ho) hs hQ
    · cases hs

/-! ### A region that draws -/

theorem loadCell_ext {h n : Heap} {g : List PC} {q : Pt} {c : PC} (hq : loadCell h g q = some c) : loadCell (h ++ n) g q = some c := by
  cases q with
  | own i o =>
    simp only [loadCell, Option.bind_eq_some_iff] at hq ⊢
    obtain ⟨cs, hi, ho⟩ := hq
    exact ⟨cs, by rw [List.getElem?_append_left (List.getElem?_eq_some_iff.1 hi).1]; exact hi, ho⟩
  | giv j => exact hq

theorem trPts_ext {h n : Heap} {g : List PC} : ∀ {qs : List Pt} {acc : List PC} {x : List Pt × List PC}, trPts h g acc qs = some x → trPts (h ++ n) g acc qs = some x
  | [], acc, x, hx => hx
  | q :: r, acc, x, hx => by
    simp only [trPts] at hx ⊢
    split at hx
    · rename_i c hc
      rw [loadCell_ext hc]
      split at hx
      · rename_i qs a h2
        simp only [trPts_ext h2]
        exact hx
      · cases hx
    · cases hx

theorem trArgs_ext {h n : Heap} {g : List PC} : ∀ {xs : List AV} {acc : List PC} {x : List AV × List PC}, trArgs h g acc xs = some x → trArgs (h ++ n) g acc xs = some x
  | [], acc, x, hx => hx
  | .agg zs :: r, acc, x, hx => by
    simp only [trArgs] at hx ⊢
    split at hx
    · rename_i l a h2
      simp only [trArgs_ext h2]; exact hx
    · cases hx
  | .c (.p z) :: r, acc, x, hx => by
    simp only [trArgs] at hx ⊢
    split at hx
    · rename_i l a h2
      simp only [trArgs_ext h2]; exact hx
    · cases hx
  | .c (.clo f caps) :: r, acc, x, hx => by
    simp only [trArgs] at hx ⊢
    split at hx
    · rename_i qs a1 hq
      simp only [trPts_ext hq]
      split at hx
      · rename_i l a h2
        simp only [trArgs_ext h2]; exact hx
      · cases hx
    · cases hx
  | .c (.ptr q) :: r, acc, x, hx => by
    simp only [trArgs] at hx ⊢
    split at hx
    · rename_i qs a1 hq
      simp only [trPts_ext hq]
      split at hx
      · rename_i l a h2
        simp only [trArgs_ext h2]; exact hx
      · cases hx
    · cases hx
  | .c (.row i k) :: r, acc, x, hx => by simp [trArgs] at hx

theorem idx_ext {h n : Heap} {i : Nat} {cs : List PC} (hi : h[i]? = some cs) : (h ++ n)[i]? = some cs := by
  rw [List.getElem?_append_left (List.getElem?_eq_some_iff.1 hi).1]; exact hi

/-- More boxes change nothing for what makes none. -/
theorem doOp_ext {T : Tab} {O : Orc} {g : List PC} {env : Env} {h n : Heap} {op : Op} {v : Option SV} (hs : isStore op = false) (hd : doOp T O g env h op = some (v, h)) :
    doOp T O g env (h ++ n) op = some (v, h ++ n) := by
  cases op <;> simp only [doOp] at hd ⊢ <;> try (cases hd; done)
  case move x => split at hd <;> simp_all
  case assign x => split at hd <;> simp_all
  case pick c x y =>
    split at hd
    · split at hd <;> simp_all
    · cases hd
  case alloc t =>
    split at hd
    · split at hd <;> simp at hd
    · cases hd
  case box t x =>
    split at hd
    · split at hd <;> simp at hd
    · cases hd
  case load t x =>
    split at hd
    · split at hd
      · rename_i cs hcs
        simp only [idx_ext hcs]
        split at hd
        · split at hd
          · simp at hd; subst hd; simp_all
          · cases hd
        · split at hd
          · simp at hd; subst hd; simp_all
          · cases hd
      · cases hd
    · split at hd
      · cases hd
      · split at hd <;> simp_all
    · cases hd
  case store t x y => simp [isStore] at hs
  case binOp op t x y ty =>
    split at hd
    · split at hd <;> simp_all
    · cases hd
  case unOp op t x =>
    split at hd
    · split at hd <;> simp_all
    · cases hd
  case convert u t x =>
    split at hd
    · split at hd <;> simp_all
    · cases hd
  case makeFunc fn first caps =>
    split at hd
    · split at hd
      · split at hd
        · split at hd <;> simp_all
        · cases hd
      · cases hd
    · cases hd
  case fieldAddr t x f =>
    split at hd
    · split at hd <;> simp_all
    · cases hd
  case field t x f =>
    split at hd
    · split at hd <;> simp_all
    · cases hd
  case indexAddr t x ix =>
    split at hd
    · split at hd <;> simp_all
    · cases hd
  case index t x ix =>
    split at hd
    · split at hd
      · split at hd <;> simp_all
      · cases hd
    · split at hd
      · split at hd <;> simp_all
      · cases hd
    · cases hd
  case build t parts =>
    split at hd
    · split at hd
      · split at hd <;> simp_all
      · cases hd
    · cases hd
  case buildSlice t k parts =>
    split at hd
    · split at hd
      · split at hd <;> simp at hd
      · cases hd
    · cases hd
  case extract x j =>
    split at hd
    · split at hd <;> simp_all
    · cases hd
  case call c =>
    split at hd
    · split at hd
      · split at hd
        · split at hd
          · rename_i r h2 hc
            simp at hd; obtain ⟨rfl, rfl⟩ := hd
            have : ∀ k args, callF O h2 g k args = some (r, h2) → callF O (h2 ++ n) g k args = some (r, h2 ++ n) := by
              intro k args hk
              unfold callF at hk ⊢
              split at hk
              · rename_i l g' ht
                simp only [trArgs_ext ht]
                split at hk
                · rename_i pre r' new hO1
                  split at hk
                  · rename_i hpre
                    rw [if_pos hpre]
                    cases new with
                    | nil => simp [grow] at hk ⊢; exact hk
                    | cons b bs => simp [grow] at hk
                  · cases hk
                · cases hk
              · cases hk
            simp only [this _ _ hc]
          · cases hd
        · cases hd
      · cases hd
    · split at hd
      · split at hd <;> simp_all
      · cases hd
    · cases hd

/-- A load reads one box. -/
theorem doOp_load {T : Tab} {O : Orc} {g : List PC} {env : Env} {h h1 : Heap} {op : Op} {v : Option SV} {c : Nat} (hl : ldOf env op = some c) (hd : doOp T O g env h op = some (v, h))
    (hc : ∀ cs, h[c]? = some cs → h1[c]? = some cs) : doOp T O g env h1 op = some (v, h1) := by
  cases op <;> simp only [ldOf] at hl <;> try (cases hl; done)
  rename_i t x
  simp only [doOp] at hd ⊢
  split at hd
  · rename_i i o d hx hT
    rw [hx] at hl
    simp [boxOf] at hl
    subst hl
    split at hd
    · rename_i cs hcs
      rw [hc cs hcs]
      simp only
      split at hd
      · rename_i ha
        rw [if_pos ha]
        split at hd
        · rename_i hle; rw [if_pos hle]; simp at hd; rw [hd]
        · cases hd
      · rename_i ha
        rw [if_neg ha]
        split at hd
        · simp at hd; rw [hd]
        · cases hd
    · cases hd
  · rename_i j d hx hT
    rw [hx] at hl
    simp [boxOf] at hl
  · cases hd

end
end Go.Proofs.YtnkdmdjnnbkfgaaGreat.Eng
