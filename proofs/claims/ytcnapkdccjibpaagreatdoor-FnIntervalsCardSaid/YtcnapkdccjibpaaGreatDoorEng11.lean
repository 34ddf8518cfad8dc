/- Rows of the table of types, out of the program's own. -/
import Derived.Test.YtcnapkdccjibpaaGreatDoorEng10
namespace Go.Proofs.YtcnapkdccjibpaaGreatDoor.Eng
open Go Go.RowKit
set_option linter.unusedVariables false
set_option linter.unusedSimpArgs false

section
variable {P : Program} {t : Nat}

theorem sizeOf_of {z : Option Value} {n : Nat} (h : (P.info? t).map (fun i => (i.zero, i.size)) = some (z, n)) (w : World) : (sizeOf t).run P w = .ok n w := by
  cases hq : P.info? t with
  | none => simp [hq] at h
  | some i => simp [hq] at h; simp [sizeOf, typeInfo, hq, h.2]
theorem zero_of {z : Value} {n : Nat} (h : (P.info? t).map (fun i => (i.zero, i.size)) = some (some z, n)) (w : World) : (zeroValue t).run P w = .ok z w := by
  cases hq : P.info? t with
  | none => simp [hq] at h
  | some i => simp [hq] at h; simp [zeroValue, typeInfo, hq, h.1]
theorem isAgg_of {d : TypeDesc} (h : P.underlying t = some d) (w : World) : (isAgg t).run P w = .ok (match d with | .struct _ | .array _ _ => true | _ => false) w := by
  unfold isAgg
  rw [Sem.run_bind, run_underlying h w]
  cases d <;> rfl

/-- Whole numbers. -/
def tdInt (k : IntKind) : TD := { agg := false, size := 1, zero := [.int k 0], zok := true, ik := some k }
theorem tdInt_ok {k : IntKind} (hu : P.underlying t = some (.int k)) (hi : (P.info? t).map (fun i => (i.zero, i.size)) = some (some (.int k 0), 1)) : TdOk P t (tdInt k) where
  und := ⟨_, hu⟩
  isAgg := isAgg_of hu
  sizeOf := sizeOf_of hi
  zero _ w := zero_of hi w
  one _ _ := rfl
  field f q h := by simp [tdInt] at h
  fieldV f q h := by simp [tdInt] at h
  conv k' hk s u hs m n w := by
    simp [tdInt] at hk; subst hk
    cases u <;> simp [convert, run_underlying hs, run_underlying hu, Conv.intToInt]
  index h := by simp [tdInt] at h
  build h := by simp [tdInt] at h
  eq h := by simp [tdInt] at h
  str h := by simp [tdInt] at h
  byt h := by simp [tdInt] at h
  row h := by simp [tdInt] at h
  eqB h := by simp [tdInt] at h

theorem eqBool (hu : P.underlying t = some .bool) (d : Nat) (a b : Bool) (w : World) : (Op.equalIn (d + 1) t (.bool a) (.bool b)).run P w = .ok (a == b) w := by
  simp [Op.equalIn, run_underlying hu]
theorem eqInt {k : IntKind} (hu : P.underlying t = some (.int k)) (d : Nat) (a b : Int) (w : World) : (Op.equalIn (d + 1) t (.int k a) (.int k b)).run P w = .ok (a == b) w := by
  simp [Op.equalIn, run_underlying hu]
theorem eqPair {k1 k2 : IntKind} {f1 f2 : Field} (hu : P.underlying t = some (.struct #[f1, f2]))
    (o1 : f1.offset = 0) (o2 : f2.offset = 1) (n1 : (f1.name != "_") = true) (n2 : (f2.name != "_") = true)
    (u1 : P.underlying f1.type = some (.int k1)) (u2 : P.underlying f2.type = some (.int k2)) (hsi : P.stoodInHeld t = false) (d : Nat) (a1 b1 a2 b2 : Int) (w : World) :
    (Op.equalIn (d + 2) t (.agg #[.int k1 a1, .int k2 b1]) (.agg #[.int k1 a2, .int k2 b2])).run P w = .ok ([a1, b1] == [a2, b2]) w := by
  have ia1 := isAgg_of (P := P) u1 w
  have ia2 := isAgg_of (P := P) u2 w
  have e1 := eqInt (P := P) u1 d a1 a2 w
  have e2 := eqInt (P := P) u2 d b1 b2 w
  have n1' : ¬ f1.name = "_" := by simpa using n1
  have n2' : ¬ f2.name = "_" := by simpa using n2
  rw [Op.equalIn]
  simp [run_underlying hu, hsi, n1', n2', part, ia1, ia2, o1, o2, e1, e2]
  by_cases h1 : a1 = a2 <;> by_cases h2 : b1 = b2 <;> simp [h1, h2]

def tdBool : TD := { agg := false, size := 1, zero := [.bool false], zok := true, isBool := true }
theorem tdBool_ok (hu : P.underlying t = some .bool) (hi : (P.info? t).map (fun i => (i.zero, i.size)) = some (some (.bool false), 1)) : TdOk P t tdBool where
  und := ⟨_, hu⟩
  isAgg := isAgg_of hu
  sizeOf := sizeOf_of hi
  zero _ w := zero_of hi w
  one _ _ := rfl
  field f q h := by simp [tdBool] at h
  fieldV f q h := by simp [tdBool] at h
  conv k h := by simp [tdBool] at h
  index h := by simp [tdBool] at h
  build h := by simp [tdBool] at h
  eq h := by simp [tdBool] at h
  str h := by simp [tdBool] at h
  byt h := by simp [tdBool] at h
  row h := by simp [tdBool] at h
  eqB _ a b w := eqBool hu 9999 a b w

/-- A type of which the size alone is told (strings, functions). -/
def tdOne : TD := { agg := false, size := 1 }
theorem tdOne_ok {d : TypeDesc} (hu : P.underlying t = some d) (hd : (match d with | .struct _ | .array _ _ => true | _ => false) = false) {z : Option Value} (hi : (P.info? t).map (fun i => (i.zero, i.size)) = some (z, 1)) : TdOk P t tdOne where
  und := ⟨_, hu⟩
  isAgg w := by rw [isAgg_of hu, hd]; rfl
  sizeOf := sizeOf_of hi
  zero h := by simp [tdOne] at h
  one h := by simp [tdOne] at h
  field f q h := by simp [tdOne] at h
  fieldV f q h := by simp [tdOne] at h
  conv k h := by simp [tdOne] at h
  index h := by simp [tdOne] at h
  build h := by simp [tdOne] at h
  eq h := by simp [tdOne] at h
  str h := by simp [tdOne] at h
  byt h := by simp [tdOne] at h
  row h := by simp [tdOne] at h
  eqB h := by simp [tdOne] at h

/-- Texts. -/
def tdStr : TD := { agg := false, size := 1, zero := [.str ByteArray.empty], zok := true, isStr := true }
theorem tdStr_ok (hu : P.underlying t = some .string) (hi : (P.info? t).map (fun i => (i.zero, i.size)) = some (some (.string ByteArray.empty), 1)) : TdOk P t tdStr where
  und := ⟨_, hu⟩
  isAgg w := by rw [isAgg_of hu]; rfl
  sizeOf := sizeOf_of hi
  zero _ w := zero_of hi w
  one _ _ := rfl
  field f q h := by simp [tdStr] at h
  fieldV f q h := by simp [tdStr] at h
  conv k h := by simp [tdStr] at h
  index h := by simp [tdStr] at h
  build h := by simp [tdStr] at h
  eq h := by simp [tdStr] at h
  str _ := hu
  byt h := by simp [tdStr] at h
  row h := by simp [tdStr] at h
  eqB h := by simp [tdStr] at h

/-- A struct of two whole numbers. -/
def tdPair (k1 k2 : IntKind) : TD := { agg := true, size := 2, zero := [.int k1 0, .int k2 0], zok := true, fields := [0, 1], eqk := [k1, k2] }

theorem ints2 {k1 k2 : IntKind} {xs : List PC} {l : List Int} (h : ints [k1, k2] xs = some l) : ∃ a b, xs = [.int k1 a, .int k2 b] ∧ l = [a, b] := by
  match xs with
  | [] => simp [ints] at h
  | [x] => cases x <;> simp [ints] at h
  | [x, y] =>
    cases x <;> cases y <;> simp [ints] at h
    rename_i k a k' b
    by_cases e1 : k1 = k
    · by_cases e2 : k2 = k'
      · subst e1 e2; simp at h; exact ⟨a, b, rfl, h.symm⟩
      · simp [e1, e2] at h
    · simp [e1] at h
  | x :: y :: z :: r => cases x <;> cases y <;> simp [ints] at h

theorem tdPair_ok {k1 k2 : IntKind} {f1 f2 : Field} (hu : P.underlying t = some (.struct #[f1, f2])) (hi : (P.info? t).map (fun i => (i.zero, i.size)) = some (some (.agg #[.int k1 0, .int k2 0]), 2))
    (o1 : f1.offset = 0) (o2 : f2.offset = 1) (n1 : (f1.name != "_") = true) (n2 : (f2.name != "_") = true)
    (u1 : P.underlying f1.type = some (.int k1)) (u2 : P.underlying f2.type = some (.int k2)) {z1 z2 : Option Value}
    (s1 : (P.info? f1.type).map (fun i => (i.zero, i.size)) = some (z1, 1)) (s2 : (P.info? f2.type).map (fun i => (i.zero, i.size)) = some (z2, 1))
    (hsi : P.stoodInHeld t = false) (hgd : P.eqGuardType P.depth t = false) : TdOk P t (tdPair k1 k2) where
  und := ⟨_, hu⟩
  isAgg := isAgg_of hu
  sizeOf := sizeOf_of hi
  zero _ w := zero_of hi w
  one _ h := by simp [tdPair] at h
  field f q h b o w := by
    have hs1 := sizeOf_of (P := P) s1 w
    have hs2 := sizeOf_of (P := P) s2 w
    match f with
    | 0 => simp [tdPair] at h; subst h; simp [Instr.fieldAt, run_underlying hu, Instr.sureAddr, fieldPlace, hs1, o1, Addr.add]
    | 1 => simp [tdPair] at h; subst h; simp [Instr.fieldAt, run_underlying hu, Instr.sureAddr, fieldPlace, hs2, o2, Addr.add]
    | f + 2 => simp [tdPair] at h
  fieldV f q h xs c w hc := by
    have i1 := isAgg_of (P := P) u1 w
    have i2 := isAgg_of (P := P) u2 w
    match f with
    | 0 => simp [tdPair] at h; subst h; simp [Instr.field, run_underlying hu, part, i1, asAgg, o1, hc]
    | 1 => simp [tdPair] at h; subst h; simp [Instr.field, run_underlying hu, part, i2, asAgg, o2, hc]
    | f + 2 => simp [tdPair] at h
  conv k h := by simp [tdPair] at h
  index h := by simp [tdPair] at h
  build _ _ parts cells w hf := by
    have hs1 := sizeOf_of (P := P) s1 w
    have hs2 := sizeOf_of (P := P) s2 w
    have hz := zero_of (P := P) hi w
    have hp : (fun i : Nat => (#[(0, 1), (1, 1)] : Array (Nat × Nat))[i]?) = (fun i => if (tdPair k1 k2).cells then some (i, 1) else ((tdPair k1 k2).fields[i]?).map (·, 1)) := by
      funext i
      match i with
      | 0 => rfl
      | 1 => rfl
      | i + 2 => simp [tdPair]
    rw [← hp] at hf
    have hf' : Instr.fill (fun i : Nat => (#[(0, 1), (1, 1)] : Array (Nat × Nat))[i]?) #[.int k1 0, .int k2 0] parts.toList = some cells := hf
    have hf2 : Instr.fill (fun x : Nat => ([(0, 1), (1, 1)] : List (Nat × Nat))[x]?) #[.int k1 0, .int k2 0] parts.toList = some cells := by simpa using hf'
    simp [Instr.build, hz, run_underlying hu, hs1, hs2, o1, o2, Value.cells, hf2]
  eq _ xs ys l m hl hm w x y := by
    obtain ⟨a1, b1, rfl, rfl⟩ := ints2 hl
    obtain ⟨a2, b2, rfl, rfl⟩ := ints2 hm
    exact ⟨by simp [eqGuard, aggOf, hgd], by simp [eqGuard, aggOf, hgd], eqPair hu o1 o2 n1 n2 u1 u2 hsi 9998 a1 b1 a2 b2 w⟩
  str h := by simp [tdPair] at h
  byt h := by simp [tdPair] at h
  row h := by simp [tdPair] at h
  eqB h := by simp [tdPair] at h

def oneCellT : TypeDesc → Bool
  | .struct _ | .array _ _ => false
  | _ => true
theorem isAgg_one {f : Nat} {d : TypeDesc} (h : P.underlying f = some d) (ho : oneCellT d = true) (w : World) : (isAgg f).run P w = .ok false w := by
  rw [isAgg_of h]
  cases d <;> first | rfl | (simp [oneCellT] at ho)
/-- A struct of three cells. -/
def tdTri (z0 z1 z2 : PC) : TD := { agg := true, size := 3, zero := [z0, z1, z2], zok := true, fields := [0, 1, 2] }
theorem tdTri_ok {z0 z1 z2 : PC} {f1 f2 f3 : Field} {d1 d2 d3 : TypeDesc} (hu : P.underlying t = some (.struct #[f1, f2, f3])) (hi : (P.info? t).map (fun i => (i.zero, i.size)) = some (some (.agg #[z0.conc, z1.conc, z2.conc]), 3))
    (o1 : f1.offset = 0) (o2 : f2.offset = 1) (o3 : f3.offset = 2)
    (u1 : P.underlying f1.type = some d1) (u2 : P.underlying f2.type = some d2) (u3 : P.underlying f3.type = some d3)
    (g1 : oneCellT d1 = true) (g2 : oneCellT d2 = true) (g3 : oneCellT d3 = true)
    {y1 y2 y3 : Option Value} (s1 : (P.info? f1.type).map (fun i => (i.zero, i.size)) = some (y1, 1)) (s2 : (P.info? f2.type).map (fun i => (i.zero, i.size)) = some (y2, 1)) (s3 : (P.info? f3.type).map (fun i => (i.zero, i.size)) = some (y3, 1)) : TdOk P t (tdTri z0 z1 z2) where
  und := ⟨_, hu⟩
  isAgg := isAgg_of hu
  sizeOf := sizeOf_of hi
  zero _ w := zero_of hi w
  one _ h := by simp [tdTri] at h
  field f q h b o w := by
    have hs1 := sizeOf_of (P := P) s1 w
    have hs2 := sizeOf_of (P := P) s2 w
    have hs3 := sizeOf_of (P := P) s3 w
    match f with
    | 0 => simp [tdTri] at h; subst h; simp [Instr.fieldAt, run_underlying hu, Instr.sureAddr, fieldPlace, hs1, o1, Addr.add]
    | 1 => simp [tdTri] at h; subst h; simp [Instr.fieldAt, run_underlying hu, Instr.sureAddr, fieldPlace, hs2, o2, Addr.add]
    | 2 => simp [tdTri] at h; subst h; simp [Instr.fieldAt, run_underlying hu, Instr.sureAddr, fieldPlace, hs3, o3, Addr.add]
    | f + 3 => simp [tdTri] at h
  fieldV f q h xs c w hc := by
    have i1 := isAgg_one (P := P) u1 g1 w
    have i2 := isAgg_one (P := P) u2 g2 w
    have i3 := isAgg_one (P := P) u3 g3 w
    match f with
    | 0 => simp [tdTri] at h; subst h; simp [Instr.field, run_underlying hu, part, i1, asAgg, o1, hc]
    | 1 => simp [tdTri] at h; subst h; simp [Instr.field, run_underlying hu, part, i2, asAgg, o2, hc]
    | 2 => simp [tdTri] at h; subst h; simp [Instr.field, run_underlying hu, part, i3, asAgg, o3, hc]
    | f + 3 => simp [tdTri] at h
  conv k h := by simp [tdTri] at h
  index h := by simp [tdTri] at h
  build _ _ parts cells w hf := by
    have hs1 := sizeOf_of (P := P) s1 w
    have hs2 := sizeOf_of (P := P) s2 w
    have hs3 := sizeOf_of (P := P) s3 w
    have hz := zero_of (P := P) hi w
    have hp : (fun i : Nat => (#[(0, 1), (1, 1), (2, 1)] : Array (Nat × Nat))[i]?) = (fun i => if (tdTri z0 z1 z2).cells then some (i, 1) else ((tdTri z0 z1 z2).fields[i]?).map (·, 1)) := by
      funext i
      match i with
      | 0 => rfl
      | 1 => rfl
      | 2 => rfl
      | i + 3 => simp [tdTri]
    rw [← hp] at hf
    have hf' : Instr.fill (fun i : Nat => (#[(0, 1), (1, 1), (2, 1)] : Array (Nat × Nat))[i]?) #[z0.conc, z1.conc, z2.conc] parts.toList = some cells := hf
    have hf2 : Instr.fill (fun x : Nat => ([(0, 1), (1, 1), (2, 1)] : List (Nat × Nat))[x]?) #[z0.conc, z1.conc, z2.conc] parts.toList = some cells := by simpa using hf'
    simp [Instr.build, hz, run_underlying hu, hs1, hs2, hs3, o1, o2, o3, Value.cells, hf2]
  eq h := by simp [tdTri] at h
  row h := by simp [tdTri] at h
  str h := by simp [tdTri] at h
  byt h := by simp [tdTri] at h
  eqB h := by simp [tdTri] at h

/-- A slice; an element's zero cells. -/
def isByt : List PC → Bool
  | [.int .u8 _] => true
  | _ => false
def tdRow (z : List PC) : TD := { agg := false, size := 1, zero := [.sl none 0 0], zok := true, row := true, ez1 := z, byt := isByt z }
theorem tdRow_ok {e n b : Nat} {z : List PC} {v : Value} (hu : P.underlying t = some (.slice e)) (hi : (P.info? t).map (fun i => (i.zero, i.size)) = some (some (.slice none 0 0), 1))
    (se : (P.info? e).map (fun i => (i.zero, i.size, i.bytes)) = some (some v, n, b)) (hzs : n = z.length) (hzc : v.cells = (z.map PC.conc).toArray) (h0 : 0 < z.length) (h64 : z.length ≤ 64) (hb : b ≤ 64) (hby : isByt z = true → P.underlying e = some (.int .u8)) : TdOk P t (tdRow z) where
  und := ⟨_, hu⟩
  isAgg := isAgg_of hu
  sizeOf := sizeOf_of hi
  zero _ w := zero_of hi w
  one _ _ := rfl
  field f q h := by simp [tdRow] at h
  fieldV f q h := by simp [tdRow] at h
  conv k h := by simp [tdRow] at h
  index _ h := by simp [tdRow] at h
  build h := by simp [tdRow] at h
  row _ := by
    cases hq : P.info? e with
    | none => rw [hq] at se; cases se
    | some i =>
      rw [hq] at se
      simp at se
      exact ⟨e, i, v, hu, hq, se.1, by rw [se.2.1, hzs]; rfl, hzc, h0, by rw [se.2.2]; exact hb, h64⟩
  eq h := by simp [tdRow] at h
  str h := by simp [tdRow] at h
  byt h := ⟨e, hu, hby h⟩
  eqB h := by simp [tdRow] at h

/-- An array of whole numbers. -/
def tdArr (k : IntKind) (n : Nat) : TD := { agg := true, size := n, zero := List.replicate n (.int k 0), zok := true, cells := true, len := n }
theorem tdArr_ok {k : IntKind} {e n : Nat} (hu : P.underlying t = some (.array n e)) (hi : (P.info? t).map (fun i => (i.zero, i.size)) = some (some (.agg (Array.replicate n (.int k 0))), n))
    (ue : P.underlying e = some (.int k)) (se : (P.info? e).map (fun i => (i.zero, i.size)) = some (some (.int k 0), 1)) : TdOk P t (tdArr k n) where
  und := ⟨_, hu⟩
  isAgg := isAgg_of hu
  sizeOf := sizeOf_of hi
  zero _ w := by
    rw [zero_of hi]
    simp [tdArr, aggOf, PC.conc]
  one _ h := by simp [tdArr] at h
  field f q h := by simp [tdArr] at h
  fieldV f q h := by simp [tdArr] at h
  conv k h := by simp [tdArr] at h
  index _ _ xs k i c w h0 hn hc := by
    have hs := sizeOf_of (P := P) se w
    have ia := isAgg_of (P := P) ue w
    have hn' : i < n := hn
    simp [Instr.index, asIntOf, run_underlying hu, h0, hn', hs, part, ia, hc]
  build _ _ parts cells w hf := by
    have hs := sizeOf_of (P := P) se w
    have hz := zero_of (P := P) hi w
    have hf' : Instr.fill (fun i => some (i, 1)) (Array.replicate n (.int k 0)) parts.toList = some cells := by
      simpa [tdArr, PC.conc] using hf
    simp [Instr.build, hz, run_underlying hu, hs, Value.cells, hf']
  eq h := by simp [tdArr] at h
  str h := by simp [tdArr] at h
  byt h := by simp [tdArr] at h
  row h := by simp [tdArr] at h
  eqB h := by simp [tdArr] at h

end
end Go.Proofs.YtcnapkdccjibpaaGreatDoor.Eng
