/- laws.FnIntervals: whatever its arguments, it returns true (package-level tables are laid as the program text lays them). -/
import Derived.Test.YtcnapkdccjibpaaGreatDoorRows
import Derived.Test.YtcnapkdccjibpaaGreatDoorCards
import Derived.Test.YtcnapkdccjibpaaGreatDoorTie
import Derived.Test.YtcnapkdccjibpaaGreatDoorL35
import Derived.WalkKit
import Derived.ProofKit
import Derived.OpenShut
import Derived.ShutString
import Derived.ChangeOld
import Derived.Below
import Derived.SizedLaws
import Derived.Lib.SmallJoins
import Derived.LaidMore
import Derived.LaidLaws
import Derived.LaidHandle
import Derived.MakeChecks
import Derived.Handed
import Derived.SevenTiedAt
import Derived.Lib.LaidTab
import Derived.Shelf.Vars
import Derived.ChangeMaps5
import Derived.ChangeSlices
import Derived.WideKeyArgs
import Derived.Deep.Frames
namespace Go.Proofs.YtcnapkdccjibpaaGreatDoor.fnIntervals
open Go Go.ChangeShapes Go.WideShapes Go.ChangeAt Go.RowKit Go.Joins
open Go.Proofs.YtcnapkdccjibpaaGreatDoor.Eng (law_FnIntervals AV SV PC Cl inR Tabs laidTabs laidInts MR HR HR.start)
set_option linter.unusedVariables false
theorem own : ownKnob Tryz.prog.godebug = none := by kernel_rfl
def laid : List (String × DataW Unit) := [("math/bits.deBruijn32tab", Rows.laid_math_bits_deBruijn32tab), ("math/bits.deBruijn64tab", Rows.laid_math_bits_deBruijn64tab), ("internal/strconv.uint64pow10", Rows.laid_internal_strconv_uint64pow10), ("unicode/utf8.acceptRanges", Rows.laid_unicode_utf8_acceptRanges), ("unicode/utf8.first", Rows.laid_unicode_utf8_first)]
set_option maxRecDepth 100000 in
theorem tabs_of {W : World} (h : laidMetH Tryz.prog laid W) (hsh : W.ShapedOpen Tryz.prog) : Tabs W := by
  rw [MakeChecks.laidMetH_plain _ _ _ (by kernel_rfl)] at h
  obtain ⟨ps, ⟨g0, t0, cs0, f0, q0, r0, hg0, ht0, hv0, hd0, ⟨g1, t1, cs1, f1, q1, r1, hg1, ht1, hv1, hd1, ⟨g2, t2, cs2, f2, q2, r2, hg2, ht2, hv2, hd2, ⟨g3, t3, cs3, f3, q3, r3, hg3, ht3, hv3, hd3, ⟨g4, t4, cs4, f4, q4, r4, hg4, ht4, hv4, hd4, _, _⟩, _⟩, _⟩, _⟩, _⟩, _⟩ := h
  have hg : Tryz.prog.globalNamed "internal/strconv.uint64pow10" = some 5 := by kernel_rfl
  have hty : (Tryz.prog.globals[5]?).map (·.type) = some 150 := by kernel_rfl
  obtain rfl := Option.some.inj (hg.symm.trans hg2)
  obtain rfl := Option.some.inj (hty.symm.trans ht2)
  have hc := Go.Lib.cells_of_tab (k := .u64) (zs := [1, 10, 100, 1000, 10000, 100000, 1000000, 10000000, 100000000, 1000000000, 10000000000, 100000000000, 1000000000000, 10000000000000, 100000000000000, 1000000000000000, 10000000000000000, 100000000000000000, 1000000000000000000, 10000000000000000000]) Tryz.underlying150 (by kernel_rfl : Tryz.prog.underlying 66 = some (.int .u64)) (by kernel_rfl) (by kernel_rfl) hd2
  unfold World.var? at hv2
  rw [hg] at hv2
  simp only [Option.bind_some] at hv2
  refine ⟨fun x hx => ?_, fun x hx => ?_⟩
  rotate_left
  · obtain rfl : x = (0, .i64) := by simpa [laidInts] using hx
    obtain ⟨m, hm⟩ := Go.Proofs.cell_of_shapedOpen_int (zero := #[.int .i64 0]) (t := 3) hsh (of_decide_eq_true (by kernel_rfl) : 0 < Tryz.prog.globals.size) (by kernel_rfl) rfl (by kernel_rfl) (by kernel_rfl) Tryz.underlying3
    refine ⟨?_, m, hm⟩
    unfold World.cell? at hm
    cases hb : W.heap[0]? with
    | none => simp [hb] at hm
    | some x => exact (Array.getElem?_eq_some_iff.1 hb).1
  have hx2 : x = (5, .u64, [1, 10, 100, 1000, 10000, 100000, 1000000, 10000000, 100000000, 1000000000, 10000000000, 100000000000, 1000000000000, 10000000000000, 100000000000000, 1000000000000000, 10000000000000000, 100000000000000000, 1000000000000000000, 10000000000000000000]) := by simpa [laidTabs] using hx
  subst hx2
  split at hv2
  · rename_i cs e t hh
    obtain rfl := Option.some.inj hv2
    refine ⟨e, t, ?_⟩
    show W.heap[5]? = _
    rw [hh, ← hc]
  · cases hv2
set_option maxRecDepth 100000 in
theorem door_met (os : Os) (args : Array Value) : laidMetH Tryz.prog laid (((World.doorLaid Tryz.prog 4000 os).setRow 3 (Go.Pinned.utf8FirstZ.map fun (n : Nat) => Value.int .u8 (n : Int)).toArray).forCall (fun _ _ => 0) ⟨#[], args, []⟩).memory := by
  rw [MakeChecks.laidMetH_plain _ _ _ (by kernel_rfl)]
  exact laidMet_of_run' 8 (by kernel_rfl) (by kernel_rfl)
theorem laidB : laidOutB Tryz.prog = true := by kernel_rfl
theorem cell1 : Tryz.prog.cellsOf 5 = 1 := by kernel_rfl
/-- What the world says of integers. -/
def mem (W : World) (a : Addr) : Option PC := if a.block < W.heap.size then (match W.cell? a with
  | some (.int k v) => some (.int k v)
  | _ => none) else none
theorem mem_ok (W : World) (ht : Tabs W) : MR (mem W) W := by
  refine ⟨?_, ht⟩
  intro a c h
  unfold mem at h
  split at h
  · rename_i hb
    split at h
    · rename_i k v hc
      simp only [Option.some.injEq] at h
      subst h
      exact ⟨hc, hb⟩
    · cases h
  · cases h
theorem cell_lt {W : World} {a : Addr} {v : Value} (h : W.cell? a = some v) : a.block < W.heap.size := by
  unfold World.cell? at h
  cases hb : W.heap[a.block]? with
  | none => simp [hb] at h
  | some x => exact (Array.getElem?_eq_some_iff.1 hb).1
theorem told (W : World) {a : Addr} {n : Nat} {zs : List Int} (hn : n ≤ zs.length) (hc : ∀ i, i < zs.length → W.cell? (a.add i) = some (.int .u8 (zs.getD i 0))) (hw : ∀ z ∈ zs, (Lit.int .u8 z).wf = true) : Go.Proofs.YtcnapkdccjibpaaGreatDoor.Eng.Told (mem W) (some a) n := by
  intro i hi
  have h1 := hc i (by omega)
  have hb : (a.add i).block < W.heap.size := cell_lt h1
  refine ⟨a, zs.getD i 0, rfl, by simp only [mem, hb, if_true, h1], ?_⟩
  have hm : zs.getD i 0 ∈ zs := by
    rw [List.getD_eq_getElem?_getD, List.getElem?_eq_getElem (by omega)]
    exact List.getElem_mem _
  have h2 := hw _ hm
  have e1 : IntKind.u8.min = 0 := by decide
  have e2 : IntKind.u8.max = 255 := by decide
  simp only [Lit.wf, e1, e2, Bool.and_eq_true, decide_eq_true_eq] at h2
  omega
theorem walk (a0 : Option Addr) (n0 c0 : Nat) (W : World) (ht : Tabs W) (t0 : Go.Proofs.YtcnapkdccjibpaaGreatDoor.Eng.Told (mem W) a0 n0) : Calls Tryz.prog 4 #[.slice a0 n0 c0] W fun e W' => e = .returned (.bool true) ∧ Below W.heap.size W W' :=
  (law_FnIntervals.calls (mem W) [.c (.p (.sl a0 n0 c0))] [] _ (.v (.c (.p (.bool true)))) [] rfl t0 W [] [] W (HR.start W) (mem_ok W ht) (fun x hx => by simp at hx; subst hx; trivial)).mono fun e w' ⟨ρ, he, _, hr, _⟩ => ⟨he, hr.below⟩
set_option maxRecDepth 100000 in
theorem lifted (os : Os) (started : os.Started) (H : Type) (enc : TypeId × Value → H) :
    ReturnsInHanded {} Tryz.checked os 4 .any (fun w args => (Rows.fnIntervalsSpec.pre enc Tryz.prog Tryz.f4 [] false w args ∧ laidMetH Tryz.prog laid w) ∧ sizedMet enc Tryz.prog Tryz.f4 (OpenSpec.ofChange Rows.fnIntervalsSpec) false w args)
      (Rows.fnIntervalsSpec.post enc Tryz.prog Tryz.f4 false true false false) := by
  refine returnsInHanded_of_calls own started (by kernel_rfl)
    (ChangeSpec.witness_shaped (enc := enc) (C := Tryz.checked) (os := os) (X := fun w _ => laidMetH Tryz.prog laid w) false ((World.doorLaid Tryz.prog 4000 os).setRow 3 (Go.Pinned.utf8FirstZ.map fun (n : Nat) => Value.int .u8 (n : Int)).toArray) #[.slice none 0 0] 8 rfl (World.shaped_of_RefB (by kernel_rfl) (by kernel_rfl)) (by kernel_rfl) (by kernel_rfl) (by kernel_rfl) (door_met os _)) ?_
  intro w tape i _ hsh _ hok hpre _
  obtain ⟨_, _, _, fn', hfn', _, _, _, _, hval1⟩ := hok
  obtain rfl : fn' = Tryz.f4 := Option.some.inj (hfn'.symm.trans Tryz.func4)
  obtain ⟨⟨⟨ds, gs, before, hw, hc⟩, hx⟩, hz⟩ := hpre
  have hW := DataW.Whole.of_heap (w' := w.forCall tape i) (by rfl) hw
  have hL : laidMetH Tryz.prog laid (w.forCall tape i) := hx.of_heap (by rfl)
  suffices hall : Calls Tryz.checked.prog 4 i.args (w.forCall tape i) fun e W' => ∃ v, e = .returned v ∧ Rows.fnIntervalsSpec.post enc Tryz.prog Tryz.f4 false true false false (w.forCall tape i) i.args v W' from
    hall.mono fun e W' ⟨v, he, hp⟩ => by subst he; exact ChangeSpec.post_blind hp
  clear hw hc hx hz
  generalize hWW : w.forCall tape i = W at *
  generalize i.args = args at *
  have hval : ∀ (j : Nat) t v, Tryz.f4.params[j]? = some t → args[j]? = some v → Value.okWide Tryz.prog W .any w.heap.size t v := hval1
  have hval0 := hval
  have hW' := hW
  obtain ⟨p, q, hA0, hV, rfl, hfz, hnd⟩ := hW
  have hA : DataW.TrodAll enc Tryz.prog W 0 (fun _ => true) true Tryz.f4.params.toList args.toList ds p := hA0
  rw [Tryz.params4] at hA hval
  obtain ⟨v0, vs0, d0, ds0, p0, q0, hargs0, rfl, rfl, h0, r0⟩ := trodAll_cons hA
  obtain ⟨rfl, rfl, rfl⟩ := trodAll_nil r0
  obtain rfl : args = #[v0] := by cases args; simp_all
  obtain ⟨rfl, rfl⟩ := trodVars_none hV
  have hlt := hW'.lt
  obtain ⟨a0, n0, c0, rfl⟩ := okWide_slice Tryz.underlying28 (hval 0 28 v0 rfl rfl)
  clear hA0 hval0
  have k0 := h0
  obtain ⟨fu0, hf0⟩ := h0
  obtain ⟨t0, g0⟩ : Go.Proofs.YtcnapkdccjibpaaGreatDoor.Eng.Told (mem W) a0 n0 ∧ ∀ x ∈ p0, ∀ bb, x ≠ .map bb := by
    rcases open_ints Tryz.underlying28 Tryz.underlying5 cell1 hf0 with ⟨hcs, hx⟩ | ⟨a, len', cap', zs, hcs, _, hl, _, hz, hx, hcell, hwz⟩
    · simp [Value.cells] at hcs
      obtain ⟨rfl, rfl, rfl⟩ := hcs
      simp only [Prod.mk.injEq] at hx
      obtain ⟨_, rfl⟩ := hx
      exact ⟨fun i hi => by omega, by simp⟩
    · simp [Value.cells] at hcs
      obtain ⟨rfl, rfl, rfl⟩ := hcs
      simp only [Prod.mk.injEq] at hx
      obtain ⟨_, rfl⟩ := hx
      simp only [if_true] at hz
      exact ⟨told W (by omega) hcell hwz, fun x hx bb e => by
        obtain ⟨i, _, rfl⟩ := MemPlace.mem_row.1 hx
        cases e⟩
  have rd0 : ∀ W', Below W.heap.size W W' → DataW.Trod enc Tryz.prog W' 0 (fun x => decide (x < W.heap.size)) true 28 (.slice a0 n0 c0) d0 p0 := fun W' bel =>
    WideElems.Trod_stays laidB (by kernel_rfl) (of_decide_eq_true (by kernel_rfl)) k0 (fun x hx => (bel.frame (fun _ => False)).sameAt (hlt x (by simp [hx])) (fun h => h) (fun bb e => absurd e (g0 x hx bb))) (fun x hx => by simpa using hlt x (by simp [hx]))
  refine (walk a0 n0 c0 W (tabs_of hL hsh) t0).mono fun e W' ⟨he, bel⟩ => ?_
  subst he
  exact ⟨_, rfl, _, _, _, [], _, [], hW', trodAll_mk1 (shut_bool Tryz.underlying4 _), (trodAll_cons_mk (rd0 _ bel) trodAll_mk0), rfl, bel.frame _, fun h => by cases h⟩
theorem over : Rows.fnIntervalsRow.holds Tryz.pinned (OpenSpec.ofChange Rows.fnIntervalsSpec) :=
  OpenClaim.holds_of_wide 4 Tryz.f4 rfl rfl rfl rfl rfl rfl rfl ⟨rfl, rfl, rfl, rfl, rfl⟩ rfl rfl rfl rfl rfl (by kernel_rfl) Tryz.func4 (by kernel_rfl)
    (of_decide_eq_true (by kernel_rfl)) (by unfold Func.isWrapper; first | (rw [if_pos (by decide +kernel)]; kernel_rfl) | (rw [if_neg (by decide +kernel)]; exact ⟨rfl, rfl⟩))
    (fun os started H enc _ => lifted os started H enc)
theorem card_over : Rows.FnIntervalsCardSaid :=
  Claim7.holds_tied_plain_at .later [] [.data, .data, .data, .data, .pinned] true (true, "09d2448001f7357b50435952216706f691c95c51de6f5fbfc757faa6f3ab8e9c") false
    over (fun _ h => by cases h) (by kernel_rfl) (fun _ h => by cases h) fnIntervals_row_tie rfl ⟨rfl, rfl⟩ (by kernel_rfl) rfl
    (fun f fn hf hfn => by
      obtain rfl : f = 4 := Option.some.inj ((show Tryz.prog.funcNamed Tryz.f4.name = some 4 by kernel_rfl).symm.trans hf) |>.symm
      obtain rfl : fn = Tryz.f4 := (Option.some.inj (Tryz.func4.symm.trans hfn)).symm
      exact ⟨by kernel_rfl, fun j t ht => by
        rw [Tryz.params4] at ht
        have h3 : t = 28 := by
          rcases j with _ | j
          · simpa using ht.symm
          · simp at ht
        subst h3
        exact (show Tryz.prog.wantsStandIn 28 = false by kernel_rfl)⟩)
    (by kernel_rfl)
#print axioms card_over
end Go.Proofs.YtcnapkdccjibpaaGreatDoor.fnIntervals
namespace Go.Proofs.YtcnapkdccjibpaaGreatDoor
/-- The card, under a short name, for the claim. -/
theorem fnIntervals_holds : Rows.FnIntervalsCardSaid := fnIntervals.card_over
end Go.Proofs.YtcnapkdccjibpaaGreatDoor
