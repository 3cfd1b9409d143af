/-
  Texts Cl Cm Cn Dn Vm Gb, as far as they are used.
-/
import Derived.Test.YtchnpgddpaonhaaUax
import Derived.Test.YtchnpgddpaonhaaRows
import Derived.Test.YtchnpgddpaonhaaUau
import Derived.KernelRfl
section
open Go.Proofs Go Go.Am Go.Op
namespace Go.Proofs.Ytchnpgddpaonhaa.d
set_option linter.unusedVariables false
set_option linter.unusedSimpArgs false
set_option maxRecDepth 100000
abbrev Tx := List UInt8
structure Ty where
  kind : Int
  name : Tx
  fields : List (Tx × Int)
  elem : Int
  len : Int
  deriving DecidableEq
structure Ro where
  name : Tx
  params : List Int
  results : List Int
  locals : Int
  stack : Int
  code : List Int
  deriving DecidableEq
structure Mo where
  types : List Ty
  texts : List Tx
  funcs : List Ro
  deriving DecidableEq
structure Ty.Ok (t : Ty) : Prop where
  kind : 0 ≤ t.kind ∧ t.kind ≤ 255
  name : t.name.length < 2 ^ 47
  fields : t.fields.length < 2 ^ 47
  names : ∀ f ∈ t.fields, f.1.length < 2 ^ 47 ∧ I64 f.2
  elem : I64 t.elem
  len : I64 t.len
structure Ro.Ok (r : Ro) : Prop where
  name : r.name.length < 2 ^ 47
  params : r.params.length < 2 ^ 47
  results : r.results.length < 2 ^ 47
  ints : ∀ n ∈ r.params ++ r.results, I64 n
  locals : I64 r.locals
  stack : I64 r.stack
  code : r.code.length < 2 ^ 47
  bytes : ∀ b ∈ r.code, Byte b
structure Mo.Ok (m : Mo) : Prop where
  types : m.types.length < 2 ^ 47
  texts : m.texts.length < 2 ^ 47
  funcs : m.funcs.length < 2 ^ 47
  ty : ∀ t ∈ m.types, t.Ok
  tx : ∀ t ∈ m.texts, t.length < 2 ^ 47
  ro : ∀ r ∈ m.funcs, r.Ok
def fldR (f : Tx × Int) : List D := [.str f.1, .int .i64 f.2]
def fldsD (fs : List (Tx × Int)) : D := .lst (fs.map fldR) 2
def tyR (t : Ty) : List D := [.int .u8 t.kind, .str t.name, fldsD t.fields, .int .i64 t.elem, .int .i64 t.len]
def tysD (l : List Ty) : D := .lst (l.map tyR) 5
def txsD (l : List Tx) : D := .lst (ones (l.map D.str)) 1
def roR (r : Ro) : List D := [.str r.name, iD r.params, iD r.results, .int .i64 r.locals, .int .i64 r.stack, bD r.code]
def rosD (l : List Ro) : D := .lst (l.map roR) 6
def moC (m : Mo) : List D := [tysD m.types, txsD m.texts, rosD m.funcs]
def moD (m : Mo) : D := .agg (moC m)
theorem fldsD_at {l : List (Tx × Int)} {i : Nat} {y : Tx × Int} (h : l[i]? = some y) : idxSl 2 (fldsD l) (.int .i64 (i : Int)) = some (.elt (fldR y) 0) := idxL (by rw [List.getElem?_map, h]; rfl)
theorem tysD_at {l : List Ty} {i : Nat} {y : Ty} (h : l[i]? = some y) : idxSl 5 (tysD l) (.int .i64 (i : Int)) = some (.elt (tyR y) 0) := idxL (by rw [List.getElem?_map, h]; rfl)
theorem txsD_at {l : List Tx} {i : Nat} {y : Tx} (h : l[i]? = some y) : idxSl 1 (txsD l) (.int .i64 (i : Int)) = some (.elt [.str y] 0) := idxL (ones_get (by rw [List.getElem?_map, h]; rfl))
theorem rosD_at {l : List Ro} {i : Nat} {y : Ro} (h : l[i]? = some y) : idxSl 6 (rosD l) (.int .i64 (i : Int)) = some (.elt (roR y) 0) := idxL (by rw [List.getElem?_map, h]; rfl)
@[simp] theorem fldsD_len (l : List (Tx × Int)) : lenSl (fldsD l) = some (.int .i64 l.length) := by simp [fldsD]
@[simp] theorem tysD_len (l : List Ty) : lenSl (tysD l) = some (.int .i64 l.length) := by simp [tysD]
@[simp] theorem txsD_len (l : List Tx) : lenSl (txsD l) = some (.int .i64 l.length) := by simp [txsD]
@[simp] theorem rosD_len (l : List Ro) : lenSl (rosD l) = some (.int .i64 l.length) := by simp [rosD]
@[simp] theorem laFld (S : DSt) (p : Tx × Int) : loadAg S 2 (.elt (fldR p) 0) = some (.agg (fldR p)) := (rfl)
@[simp] theorem laTy (S : DSt) (p : Ty) : loadAg S 5 (.elt (tyR p) 0) = some (.agg (tyR p)) := (rfl)
@[simp] theorem laRo (S : DSt) (p : Ro) : loadAg S 6 (.elt (roR p) 0) = some (.agg (roR p)) := (rfl)
theorem beqT (a b : Tx) : (a == b) = decide (a = b) := by by_cases h : a = b <;> simp [h]
theorem bsEqT (a b : Tx) : binS .eql (.str a) (.str b) = some (.bool (decide (a = b))) := by rw [bsEq, beqT]
theorem biNeD (k : IntKind) (a b : Int) : binI .neq (.int k a) (.int k b) = some (.bool (decide (a ≠ b))) := by rw [biNe, bneD]
theorem biEqD (k : IntKind) (a b : Int) : binI .eql (.int k a) (.int k b) = some (.bool (decide (a = b))) := by rw [biEq, beqD]
theorem eqFldD (p q : Tx × Int) : eqAg Try.prog t_api_Field (.agg (fldR p)) (.agg (fldR q)) = some (decide (p = q)) := by
  have h : eqAg Try.prog t_api_Field (.agg (fldR p)) (.agg (fldR q)) = andO (some (p.1 == q.1)) (andO (some (p.2 == q.2)) (some true)) := by kernel_rfl
  rw [h, andO_b, andO_b, Bool.and_true]
  congr 1
  rw [beqD, beqT, ← Bool.decide_and]
  congr 1
  rw [Prod.ext_iff]
theorem strB_inj : ∀ {a b : List Int}, (∀ x ∈ a, Byte x) → (∀ x ∈ b, Byte x) → strB a = strB b → a = b
  | [], [], _, _, _ => rfl
  | [], _ :: _, _, _, h => by simp [strB] at h
  | _ :: _, [], _, _, h => by simp [strB] at h
  | x :: a, y :: b, ha, hb, h => by
    simp only [strB, List.map_cons, List.cons.injEq] at h
    obtain ⟨h1, h2⟩ := h
    have hx := ha x List.mem_cons_self
    have hy := hb y List.mem_cons_self
    have e := congrArg UInt8.toNat h1
    obtain ⟨x0, x1⟩ := hx
    obtain ⟨y0, y1⟩ := hy
    simp only [UInt8.toNat_ofNat'] at e
    have hxy : x = y := by omega
    rw [hxy, strB_inj (fun z hz => ha z (List.mem_cons_of_mem _ hz)) (fun z hz => hb z (List.mem_cons_of_mem _ hz)) h2]
section
variable {E : Env} {w0 : World}
theorem t1 : (true == false) = false := rfl
theorem t2 : (false == false) = true := rfl
theorem t3 : (false == true) = false := rfl
theorem t4 : (true == true) = true := rfl
theorem kit_SameFields_ok {a b : List (Tx × Int)} (hl : a.length < 2 ^ 60) (hb : b.length < 2 ^ 60) : Pure Try.prog E w0 f_kit_SameFields [fldsD a, fldsD b] (.bool (decide (a = b))) := fun x S => by
  refine V_kit_SameFields_ok ?_
  unfold V_kit_SameFields
  simp only [fldsD_len, oD, biNe]
  rw [bneD, cdI]
  refine ⟨fun h => ?_, fun h => ?_⟩
  · rw [decide_eq_false (fun e => h (by rw [e]))]
    exact FinD.pure
  have h : a.length = b.length := by omega
  refine loop_kit_SameFields_0 (I := fun n x0 x1 x5 S' => S' = S ∧ x0 = fldsD a ∧ x1 = fldsD b ∧ ∃ i : Nat, x5 = .int .i64 (i : Int) ∧ i + n = a.length ∧ a.take i = b.take i) ?_ (n := a.length) ⟨rfl, rfl, rfl, 0, rfl, by omega, rfl⟩
  rintro n _ _ _ _ ⟨rfl, rfl, rfl, i, rfl, hi, ht⟩
  unfold B_kit_SameFields_0
  simp only [fldsD_len, oD, biLt]
  rw [cdI]
  refine ⟨fun hlt => ?_, fun hge => ?_⟩
  · have hlt : i < a.length := by omega
    have ea : a[i]? = some a[i] := List.getElem?_eq_getElem hlt
    have eb : b[i]? = some b[i] := List.getElem?_eq_getElem (by omega)
    simp only [fldsD_at ea, fldsD_at eb, oD, laFld, eqFldD, eqN]
    refine ⟨by trivial, by trivial, ?_⟩
    rw [← decide_not, cdI]
    refine ⟨fun hne => ?_, fun he => ?_⟩
    · rw [decide_eq_false (fun e => hne (by simp only [e]))]
      exact FinD.pure
    · rw [biAdd, oD, wrap_i64 (by omega) (by omega)]
      refine ⟨n - 1, by omega, by trivial, by trivial, by trivial, i + 1, rfl, by omega, ?_⟩
      rw [List.take_add_one, List.take_add_one, ht, ea, eb, Classical.not_not.1 he]
  · rw [List.take_of_length_le (by omega), List.take_of_length_le (by omega)] at ht
    rw [decide_eq_true ht]
    exact FinD.pure
theorem kit_SameType_ok {y z : Ty} (hy : y.Ok) (hz : z.Ok) : Pure Try.prog E w0 f_kit_SameType [.agg (tyR y), .agg (tyR z)] (.bool (decide (y = z))) := fun x S => by
  refine V_kit_SameType_ok ?_
  unfold V_kit_SameType
  rw [clA, oD]
  intro k a n
  rw [clA, oD]
  intro k2 a2 n2
  obtain ⟨ne2, n2'⟩ := DSt.fresh n2
  generalize hS3 : (S.set k _).set k2 _ = S3
  have h2 : S3 k2 = some ⟨5, [tyR z], a2⟩ := by rw [← hS3]; exact DSt.set_same _ _ _
  have h0 : S3 k = some ⟨5, [tyR y], a⟩ := by rw [← hS3, DSt.set_ne _ _ _ (Ne.symm ne2)]; exact DSt.set_same _ _ _
  have hle : S.le S3 := by rw [← hS3]; exact DSt.le_set (DSt.le_new n) n2'
  have hx : ∀ y : Ty, (tyR y)[0]? = some (.int .u8 y.kind) ∧ (tyR y)[1]? = some (.str y.name) ∧ (tyR y)[2]? = some (fldsD y.fields) ∧ (tyR y)[3]? = some (.int .i64 y.elem) ∧ (tyR y)[4]? = some (.int .i64 y.len) := fun _ => ⟨rfl, rfl, rfl, rfl, rfl⟩
  have fin : ∀ b : Bool, decide (y = z) = b → FinD E (fun d' S' => d' = D.bool (decide (y = z)) ∧ S' = S) (.bool b) S3 := fun b h => by rw [h]; exact FinD.less hle FinD.pure
  simp only [ofP, oD, ldP h2, ldP h0, Nat.zero_add, (hx y).1, (hx z).1, biEq]
  rw [beqD]
  by_cases c1 : y.kind = z.kind
  · rw [decide_eq_true c1]
    simp only [wdB, t4, vdT, oD, ldP h2, ldP h0, (hx y).2.1, (hx z).2.1, bsEq, pdB, if_true]
    rw [beqT]
    by_cases c2 : y.name = z.name
    · rw [decide_eq_true c2]
      simp only [wdB, t4, vdT, oD, ldP h2, ldP h0, (hx y).2.2.2.1, (hx z).2.2.2.1, biEq, pdB, if_true]
      rw [beqD]
      by_cases c3 : y.elem = z.elem
      · rw [decide_eq_true c3]
        simp only [wdB, t4, vdT, oD, ldP h2, ldP h0, (hx y).2.2.2.2, (hx z).2.2.2.2, biEq, pdB, if_true]
        rw [beqD]
        by_cases c4 : y.len = z.len
        · rw [decide_eq_true c4]
          simp only [wdB, t4, vdT, oD, ldP h2, ldP h0, (hx y).2.2.1, (hx z).2.2.1, gdT]
          have := hy.fields; have := hz.fields
          refine (kit_SameFields_ok (by omega) (by omega)).use ?_
          rw [if_pos trivial]
          refine fin _ ?_
          congr 1
          refine propext ⟨fun e => by rw [e], fun e => ?_⟩
          obtain ⟨y1, y2, y3, y4, y5⟩ := y
          obtain ⟨z1, z2, z3, z4, z5⟩ := z
          simp only at c1 c2 c3 c4 e
          simp only [c1, c2, c3, c4, e]
        · rw [decide_eq_false c4]
          simp only [wdB, t3, vdF, gdF, oD, pdB, Bool.false_eq_true, if_false]
          exact fin false (decide_eq_false fun e => c4 (by rw [e]))
      · rw [decide_eq_false c3]
        simp only [wdB, t3, vdF, gdF, oD, pdB, Bool.false_eq_true, if_false]
        exact fin false (decide_eq_false fun e => c3 (by rw [e]))
    · rw [decide_eq_false c2]
      simp only [wdB, t3, vdF, gdF, oD, pdB, Bool.false_eq_true, if_false]
      exact fin false (decide_eq_false fun e => c2 (by rw [e]))
  · rw [decide_eq_false c1]
    simp only [wdB, t3, vdF, gdF, oD, pdB, Bool.false_eq_true, if_false]
    exact fin false (decide_eq_false fun e => c1 (by rw [e]))
theorem kit_SameRoutine_ok {y z : Ro} (hy : y.Ok) (hz : z.Ok) : Pure Try.prog E w0 f_kit_SameRoutine [.agg (roR y), .agg (roR z)] (.bool (decide (y = z))) := fun x S => by
  refine V_kit_SameRoutine_ok ?_
  unfold V_kit_SameRoutine
  rw [clA, oD]
  intro k a n
  rw [clA, oD]
  intro k2 a2 n2
  obtain ⟨ne2, n2'⟩ := DSt.fresh n2
  generalize hS3 : (S.set k _).set k2 _ = S3
  have h2 : S3 k2 = some ⟨6, [roR z], a2⟩ := by rw [← hS3]; exact DSt.set_same _ _ _
  have h0 : S3 k = some ⟨6, [roR y], a⟩ := by rw [← hS3, DSt.set_ne _ _ _ (Ne.symm ne2)]; exact DSt.set_same _ _ _
  have hle : S.le S3 := by rw [← hS3]; exact DSt.le_set (DSt.le_new n) n2'
  have hx : ∀ y : Ro, (roR y)[0]? = some (.str y.name) ∧ (roR y)[1]? = some (iD y.params) ∧ (roR y)[2]? = some (iD y.results) ∧ (roR y)[3]? = some (.int .i64 y.locals) ∧ (roR y)[4]? = some (.int .i64 y.stack) ∧ (roR y)[5]? = some (bD y.code) := fun _ => ⟨rfl, rfl, rfl, rfl, rfl, rfl⟩
  have fin : ∀ b : Bool, decide (y = z) = b → FinD E (fun d' S' => d' = D.bool (decide (y = z)) ∧ S' = S) (.bool b) S3 := fun b h => by rw [h]; exact FinD.less hle FinD.pure
  have hp1 := hy.params; have hp2 := hz.params; have hr1 := hy.results; have hr2 := hz.results
  simp only [ofP, oD, ldP h2, ldP h0, Nat.zero_add, (hx y).1, (hx z).1, bsEq]
  rw [beqT]
  by_cases c1 : y.name = z.name
  · rw [decide_eq_true c1]
    simp only [wdB, t4, vdT, oD, ldP h2, ldP h0, (hx y).2.2.2.1, (hx z).2.2.2.1, biEq, pdB, if_true]
    rw [beqD]
    by_cases c2 : y.locals = z.locals
    · rw [decide_eq_true c2]
      simp only [wdB, t4, vdT, oD, ldP h2, ldP h0, (hx y).2.2.2.2.1, (hx z).2.2.2.2.1, biEq, pdB, if_true]
      rw [beqD]
      by_cases c3 : y.stack = z.stack
      · rw [decide_eq_true c3]
        simp only [wdB, t4, vdT, oD, ldP h2, ldP h0, (hx y).2.1, (hx z).2.1, gdT, pdB, if_true]
        refine (kit_SameInts_ok (by omega) (by omega)).use ?_
        by_cases c4 : y.params = z.params
        · rw [decide_eq_true c4]
          simp only [wdB, t4, vdT, oD, ldP h2, ldP h0, (hx y).2.2.1, (hx z).2.2.1, gdT, pdB, if_true]
          refine (kit_SameInts_ok (by omega) (by omega)).use ?_
          by_cases c5 : y.results = z.results
          · rw [decide_eq_true c5]
            simp only [wdB, t4, vdT, oD, ldP h2, ldP h0, (hx y).2.2.2.2.2, (hx z).2.2.2.2.2, convB, bsEq, pdB, if_true]
            rw [beqT]
            refine fin _ ?_
            congr 1
            refine propext ⟨fun e => by rw [e], fun e => ?_⟩
            have e := strB_inj hy.bytes hz.bytes e
            obtain ⟨y1, y2, y3, y4, y5, y6⟩ := y
            obtain ⟨z1, z2, z3, z4, z5, z6⟩ := z
            simp only at c1 c2 c3 c4 c5 e
            simp only [c1, c2, c3, c4, c5, e]
          · rw [decide_eq_false c5]
            simp only [wdB, t3, vdF, gdF, oD, pdB, Bool.false_eq_true, if_false]
            exact fin false (decide_eq_false fun e => c5 (by rw [e]))
        · rw [decide_eq_false c4]
          simp only [wdB, t3, vdF, gdF, oD, pdB, Bool.false_eq_true, if_false]
          exact fin false (decide_eq_false fun e => c4 (by rw [e]))
      · rw [decide_eq_false c3]
        simp only [wdB, t3, vdF, gdF, oD, pdB, Bool.false_eq_true, if_false]
        exact fin false (decide_eq_false fun e => c3 (by rw [e]))
    · rw [decide_eq_false c2]
      simp only [wdB, t3, vdF, gdF, oD, pdB, Bool.false_eq_true, if_false]
      exact fin false (decide_eq_false fun e => c2 (by rw [e]))
  · rw [decide_eq_false c1]
    simp only [wdB, t3, vdF, gdF, oD, pdB, Bool.false_eq_true, if_false]
    exact fin false (decide_eq_false fun e => c1 (by rw [e]))
end
end Go.Proofs.Ytchnpgddpaonhaa.d
end

section
open Go.Proofs Go Go.Am Go.Op
namespace Go.Proofs.Ytchnpgddpaonhaa.d
set_option linter.unusedVariables false
set_option linter.unusedSimpArgs false
set_option maxRecDepth 100000
section
variable {E : Env} {w0 : World}
theorem moC_at (m : Mo) : (moC m)[0]? = some (tysD m.types) ∧ (moC m)[1]? = some (txsD m.texts) ∧ (moC m)[2]? = some (rosD m.funcs) := ⟨rfl, rfl, rfl⟩
theorem kit_SameModule_ok {a b : Mo} (ha : a.Ok) (hb : b.Ok) : Pure Try.prog E w0 f_kit_SameModule [moD a, moD b] (.bool (decide (a = b))) := fun x S => by
  refine V_kit_SameModule_ok ?_
  unfold V_kit_SameModule
  rw [moD, clA, oD]
  intro k c n
  rw [moD, clA, oD]
  intro k2 c2 n2
  obtain ⟨ne2, n2'⟩ := DSt.fresh n2
  generalize hS3 : (S.set k _).set k2 _ = S3
  have h2 : S3 k2 = some ⟨3, [moC b], c2⟩ := by rw [← hS3]; exact DSt.set_same _ _ _
  have h0 : S3 k = some ⟨3, [moC a], c⟩ := by rw [← hS3, DSt.set_ne _ _ _ (Ne.symm ne2)]; exact DSt.set_same _ _ _
  have hle : S.le S3 := by rw [← hS3]; exact DSt.le_set (DSt.le_new n) n2'
  have fin : ∀ v : Bool, decide (a = b) = v → FinD E (fun d' S' => d' = D.bool (decide (a = b)) ∧ S' = S) (.bool v) S3 := fun v h => by rw [h]; exact FinD.less hle FinD.pure
  obtain ⟨xa0, xa1, xa2⟩ := moC_at a
  obtain ⟨xb0, xb1, xb2⟩ := moC_at b
  have := ha.types; have := hb.types; have := ha.texts; have := hb.texts; have := ha.funcs; have := hb.funcs
  simp only [ofP, oD, ldP h2, ldP h0, Nat.zero_add, xa0, xb0, tysD_len, biNe]
  rw [bneD]
  by_cases e0 : a.types.length = b.types.length
  · rw [decide_eq_false (show ¬ ((a.types.length : Int) ≠ b.types.length) by omega)]
    simp only [wdB, t2, vdT, oD, ldP h2, ldP h0, xa1, xb1, txsD_len, biNe, pdB, Bool.false_eq_true, if_false]
    rw [bneD]
    by_cases e1 : a.texts.length = b.texts.length
    · rw [decide_eq_false (show ¬ ((a.texts.length : Int) ≠ b.texts.length) by omega)]
      simp only [wdB, t2, vdT, oD, ldP h2, ldP h0, xa2, xb2, rosD_len, biNe, pdB, Bool.false_eq_true, if_false]
      rw [bneD, cdI]
      refine ⟨fun hne => fin false (decide_eq_false fun h => hne (by rw [h])), fun he => ?_⟩
      have e2 : a.funcs.length = b.funcs.length := by omega
      refine loop_kit_SameModule_0 (I := fun n x2 x3 x5 S' => S3 = S' ∧ x2 = .ptr k 0 ∧ x3 = .ptr k2 0 ∧ ∃ i : Nat, x5 = .int .i64 (i : Int) ∧ i + n = a.types.length ∧ a.types.take i = b.types.take i) ?_ (n := a.types.length) ⟨rfl, rfl, rfl, 0, rfl, by omega, rfl⟩
      rintro n _ _ _ _ ⟨rfl, rfl, rfl, i, rfl, hi, ht⟩
      unfold B_kit_SameModule_0
      simp only [ofP, oD, ldP h2, ldP h0, Nat.zero_add, xa0, xb0, tysD_len, biLt]
      rw [cdI]
      refine ⟨fun hlt => ?_, fun hge => ?_⟩
      · have hlt : i < a.types.length := by omega
        have ea : a.types[i]? = some a.types[i] := List.getElem?_eq_getElem hlt
        have eb : b.types[i]? = some b.types[i] := List.getElem?_eq_getElem (by omega)
        simp only [tysD_at ea, tysD_at eb, oD, laTy]
        refine ⟨by trivial, by trivial, by trivial, by trivial, (kit_SameType_ok (ha.ty _ (List.getElem_mem _)) (hb.ty _ (List.getElem_mem _))).useX ⟨by trivial, ?_⟩⟩
        rw [unN, oD, ← decide_not, cdI]
        refine ⟨fun hne => fin false (decide_eq_false fun h => hne (by simp only [h])), fun he => ?_⟩
        rw [biAdd, oD, wrap_i64 (by omega) (by omega)]
        refine ⟨n - 1, by omega, by trivial, by trivial, by trivial, i + 1, rfl, by omega, ?_⟩
        rw [List.take_add_one, List.take_add_one, ht, ea, eb, Classical.not_not.1 he]
      · rw [List.take_of_length_le (by omega), List.take_of_length_le (by omega)] at ht
        refine loop_kit_SameModule_1 (I := fun n x2 x3 x5 S' => S3 = S' ∧ x2 = .ptr k 0 ∧ x3 = .ptr k2 0 ∧ ∃ i : Nat, x5 = .int .i64 (i : Int) ∧ i + n = a.texts.length ∧ a.texts.take i = b.texts.take i) ?_ (n := a.texts.length) ⟨rfl, rfl, rfl, 0, rfl, by omega, rfl⟩
        clear hi hge
        rintro n _ _ _ _ ⟨rfl, rfl, rfl, i, rfl, hi, ht1⟩
        unfold B_kit_SameModule_1
        simp only [ofP, oD, ldP h2, ldP h0, Nat.zero_add, xa1, xb1, txsD_len, biLt]
        rw [cdI]
        refine ⟨fun hlt => ?_, fun hge => ?_⟩
        · have hlt : i < a.texts.length := by omega
          have ea : a.texts[i]? = some a.texts[i] := List.getElem?_eq_getElem hlt
          have eb : b.texts[i]? = some b.texts[i] := List.getElem?_eq_getElem (by omega)
          simp only [txsD_at ea, txsD_at eb, oD, lsE, List.getElem?_cons_zero, bsNe]
          refine ⟨by trivial, by trivial, by trivial, by trivial, ?_⟩
          rw [beqT, ← decide_not, cdI]
          refine ⟨fun hne => fin false (decide_eq_false fun h => hne (by simp only [h])), fun he => ?_⟩
          rw [biAdd, oD, wrap_i64 (by omega) (by omega)]
          refine ⟨n - 1, by omega, by trivial, by trivial, by trivial, i + 1, rfl, by omega, ?_⟩
          rw [List.take_add_one, List.take_add_one, ht1, ea, eb, Classical.not_not.1 he]
        · rw [List.take_of_length_le (by omega), List.take_of_length_le (by omega)] at ht1
          refine loop_kit_SameModule_2 (I := fun n x2 x3 x5 S' => S3 = S' ∧ x2 = .ptr k 0 ∧ x3 = .ptr k2 0 ∧ ∃ i : Nat, x5 = .int .i64 (i : Int) ∧ i + n = a.funcs.length ∧ a.funcs.take i = b.funcs.take i) ?_ (n := a.funcs.length) ⟨rfl, rfl, rfl, 0, rfl, by omega, rfl⟩
          clear hi hge
          rintro n _ _ _ _ ⟨rfl, rfl, rfl, i, rfl, hi, ht2⟩
          unfold B_kit_SameModule_2
          simp only [ofP, oD, ldP h2, ldP h0, Nat.zero_add, xa2, xb2, rosD_len, biLt]
          rw [cdI]
          refine ⟨fun hlt => ?_, fun hge => ?_⟩
          · have hlt : i < a.funcs.length := by omega
            have ea : a.funcs[i]? = some a.funcs[i] := List.getElem?_eq_getElem hlt
            have eb : b.funcs[i]? = some b.funcs[i] := List.getElem?_eq_getElem (by omega)
            simp only [rosD_at ea, rosD_at eb, oD, laRo]
            refine ⟨by trivial, by trivial, by trivial, by trivial, (kit_SameRoutine_ok (ha.ro _ (List.getElem_mem _)) (hb.ro _ (List.getElem_mem _))).useX ⟨by trivial, ?_⟩⟩
            rw [unN, oD, ← decide_not, cdI]
            refine ⟨fun hne => fin false (decide_eq_false fun h => hne (by simp only [h])), fun he => ?_⟩
            rw [biAdd, oD, wrap_i64 (by omega) (by omega)]
            refine ⟨n - 1, by omega, by trivial, by trivial, by trivial, i + 1, rfl, by omega, ?_⟩
            rw [List.take_add_one, List.take_add_one, ht2, ea, eb, Classical.not_not.1 he]
          · rw [List.take_of_length_le (by omega), List.take_of_length_le (by omega)] at ht2
            refine fin true (decide_eq_true ?_)
            obtain ⟨a1, a2, a3⟩ := a
            obtain ⟨b1, b2, b3⟩ := b
            simp only at ht ht1 ht2
            rw [ht, ht1, ht2]
    · rw [decide_eq_true (show ((a.texts.length : Int) ≠ b.texts.length) by omega)]
      simp only [wdB, t1, vdF, oD, pdB, if_true, cdT]
      exact fin false (decide_eq_false fun h => e1 (by rw [h]))
  · rw [decide_eq_true (show ((a.types.length : Int) ≠ b.types.length) by omega)]
    simp only [wdB, t1, vdF, oD, pdB, if_true, cdT]
    exact fin false (decide_eq_false fun h => e0 (by rw [h]))
theorem whileAnd {b : Bool} {s N : Int} {K : D → Prop} (h : K (.bool (b && decide (s ≤ N)))) : optW (valGD (wantsD (.bool b) true) (some (.int .i64 s))) fun v17 => optW (valGD (wantsD (.bool b) true) (some (.int .i64 N))) fun v18 => optW (valGD (wantsD (.bool b) true) (binI .leq v17 v18)) fun v19 => optW (pickD (.bool b) v19 (.bool false)) fun v20 => K v20 := by
  cases b <;> simpa using h
/-- What a module has at most. -/
structure Mo.Small (m : Mo) (N : Nat) : Prop where
  types : m.types.length ≤ N
  texts : m.texts.length ≤ N
  funcs : m.funcs.length ≤ N
  fields : ∀ t ∈ m.types, t.fields.length ≤ N
  params : ∀ r ∈ m.funcs, r.params.length ≤ N ∧ r.results.length ≤ N ∧ r.code.length ≤ N
theorem kit_Bulk_ok {m : Mo} (hm : m.Ok) {N : Nat} (hN : N < 2 ^ 40) {x : Bool} {S : DSt} : DFn Try.prog E w0 x f_kit_Bulk [moD m, .int .i64 (N : Int)] S fun d S' => S' = S ∧ ∃ b : Int, d = .int .i64 b ∧ (b ≤ N → m.Small N) := by
  refine V_kit_Bulk_ok ?_
  unfold V_kit_Bulk
  rw [moD, clA, oD]
  intro k c n
  have h0 : (S.set k ⟨3, [moC m], c⟩) k = some ⟨3, [moC m], c⟩ := DSt.set_same _ _ _
  have hle : S.le (S.set k ⟨3, [moC m], c⟩) := DSt.le_new n
  have e3 : (moC m).length = 3 := rfl
  rw [e3]
  generalize S.set k ⟨3, [moC m], c⟩ = S3 at h0 hle ⊢
  obtain ⟨xa0, xa1, xa2⟩ := moC_at m
  have := hm.types; have := hm.texts; have := hm.funcs
  simp only [ofP, oD, ldP h0, Nat.zero_add, xa0, xa1, xa2, tysD_len, txsD_len, rosD_len, biAdd]
  rw [show IntKind.i64.wrap ((m.types.length : Int) + m.texts.length) = _ from wrap_i64 (by omega) (by omega), show IntKind.i64.wrap ((m.types.length : Int) + m.texts.length + m.funcs.length) = _ from wrap_i64 (by omega) (by omega)]
  refine loop_kit_Bulk_0 (I := fun n x1 x2 x5 x6 S' => S3 = S' ∧ x1 = .int .i64 (N : Int) ∧ x2 = .ptr k 0 ∧ ∃ (i : Nat) (s : Int), x6 = .int .i64 (i : Int) ∧ x5 = .int .i64 s ∧ i + n = m.types.length ∧ m.types.length ≤ s ∧ m.texts.length ≤ s ∧ m.funcs.length ≤ s ∧ s < 2 ^ 50 ∧ ∀ t ∈ m.types.take i, (t.fields.length : Int) ≤ s) ?_ (n := m.types.length)
    ⟨rfl, rfl, rfl, 0, _, rfl, rfl, by omega, by omega, by omega, by omega, by omega, by simp⟩
  rintro n _ _ _ _ _ ⟨rfl, rfl, rfl, i, s, rfl, rfl, hi, s1, s2, s3, s4, hs⟩
  unfold B_kit_Bulk_0
  simp only [ofP, oD, ldP h0, Nat.zero_add, xa0, tysD_len, biLt]
  refine whileAnd ?_
  rw [← Bool.decide_and, cdI]
  refine ⟨fun ⟨hlt, hsN⟩ => ?_, fun hge => ?_⟩
  · have hlt : i < m.types.length := by omega
    obtain ⟨t, ht⟩ : ∃ t, t = m.types[i] := ⟨_, rfl⟩
    have ea : m.types[i]? = some t := by rw [List.getElem?_eq_getElem hlt, ht]
    have htk := hm.ty t (by rw [ht]; exact List.getElem_mem _)
    have l1 := htk.name
    have l2 := htk.fields
    simp only [tysD_at ea, oD, ofE, lsE, show (tyR t)[0 + 1]? = some (.str t.name) from rfl, show (tyR t)[0 + 2]? = some (fldsD t.fields) from rfl, show (tyR t)[1]? = some (.str t.name) from rfl, show (tyR t)[2]? = some (fldsD t.fields) from rfl, Nat.zero_add, lnS, fldsD_len, biAdd]
    refine ⟨by trivial, by trivial, by trivial, by trivial, by trivial, by trivial, ?_⟩
    rw [show IntKind.i64.wrap (s + t.name.length) = _ from wrap_i64 (by omega) (by omega), show IntKind.i64.wrap (s + t.name.length + t.fields.length) = _ from wrap_i64 (by omega) (by omega)]
    refine loop_kit_Bulk_1 (I := fun n' x1 x2 x5 x6 x7 S' => S3 = S' ∧ x1 = .int .i64 (N : Int) ∧ x2 = .ptr k 0 ∧ x6 = .int .i64 (i : Int) ∧ ∃ (j : Nat) (q : Int), x7 = .int .i64 (j : Int) ∧ x5 = .int .i64 q ∧ j + n' = t.fields.length ∧ s ≤ q ∧ t.fields.length ≤ q ∧ q < 2 ^ 50) ?_ (n := t.fields.length)
      ⟨rfl, rfl, rfl, rfl, 0, _, rfl, rfl, by omega, by omega, by omega, by omega⟩
    rintro n' _ _ _ _ _ _ ⟨rfl, rfl, rfl, rfl, j, q, rfl, rfl, hj, q1, q2, q3⟩
    unfold B_kit_Bulk_1
    simp only [ofP, oD, ldP h0, Nat.zero_add, xa0, tysD_at ea, ofE, lsE, show (tyR t)[2]? = some (fldsD t.fields) from rfl, fldsD_len, biLt]
    refine whileAnd ?_
    rw [← Bool.decide_and, cdI]
    refine ⟨fun ⟨hlt', hqN⟩ => ?_, fun hge => ?_⟩
    · have hlt' : j < t.fields.length := by omega
      obtain ⟨f, hf⟩ : ∃ f, f = t.fields[j] := ⟨_, rfl⟩
      have eb : t.fields[j]? = some f := by rw [List.getElem?_eq_getElem hlt', hf]
      have l3 := (htk.names f (by rw [hf]; exact List.getElem_mem _)).1
      simp only [fldsD_at eb, oD, ofE, lsE, Nat.zero_add, show (fldR f)[0]? = some (.str f.1) from rfl, lnS, biAdd]
      rw [show IntKind.i64.wrap (q + f.1.length) = _ from wrap_i64 (by omega) (by omega), show IntKind.i64.wrap ((j : Int) + 1) = _ from wrap_i64 (by omega) (by omega)]
      exact ⟨n' - 1, by omega, by trivial, by trivial, by trivial, by trivial, j + 1, _, rfl, rfl, by omega, by omega, by omega, by omega⟩
    · rw [biAdd, oD, wrap_i64 (by omega) (by omega)]
      refine ⟨n - 1, by omega, by trivial, by trivial, by trivial, i + 1, q, rfl, rfl, by omega, by omega, by omega, by omega, by omega, fun t' ht' => ?_⟩
      rw [List.take_add_one, ea, Option.toList_some] at ht'
      rcases List.mem_append.1 ht' with h | h
      · have := hs t' h; omega
      · rw [List.mem_singleton.1 h]; exact q2
  have hs : s ≤ N → ∀ t ∈ m.types, (t.fields.length : Int) ≤ s := fun h => by
    have : i = m.types.length := by
      by_cases c : i < m.types.length
      · exact (hge ⟨by omega, h⟩).elim
      · omega
    rw [this, List.take_length] at hs
    exact hs
  clear hge hi
  refine loop_kit_Bulk_2 (I := fun n x1 x2 x5 x6 S' => S3 = S' ∧ x1 = .int .i64 (N : Int) ∧ x2 = .ptr k 0 ∧ ∃ (i : Nat) (q : Int), x6 = .int .i64 (i : Int) ∧ x5 = .int .i64 q ∧ i + n = m.texts.length ∧ s ≤ q ∧ q < 2 ^ 50) ?_ (n := m.texts.length)
    ⟨rfl, rfl, rfl, 0, _, rfl, rfl, by omega, by omega, by omega⟩
  rintro n _ _ _ _ _ ⟨rfl, rfl, rfl, i, q, rfl, rfl, hi, q1, q2⟩
  unfold B_kit_Bulk_2
  simp only [ofP, oD, ldP h0, Nat.zero_add, xa1, txsD_len, biLt]
  refine whileAnd ?_
  rw [← Bool.decide_and, cdI]
  refine ⟨fun ⟨hlt, hsN⟩ => ?_, fun hge => ?_⟩
  · have hlt : i < m.texts.length := by omega
    obtain ⟨t, ht⟩ : ∃ t, t = m.texts[i] := ⟨_, rfl⟩
    have ea : m.texts[i]? = some t := by rw [List.getElem?_eq_getElem hlt, ht]
    have l1 := hm.tx t (by rw [ht]; exact List.getElem_mem _)
    simp only [txsD_at ea, oD, lsE, List.getElem?_cons_zero, lnS, biAdd]
    rw [show IntKind.i64.wrap (q + t.length) = _ from wrap_i64 (by omega) (by omega), show IntKind.i64.wrap ((i : Int) + 1) = _ from wrap_i64 (by omega) (by omega)]
    exact ⟨n - 1, by omega, by trivial, by trivial, by trivial, i + 1, _, rfl, rfl, by omega, by omega, by omega⟩
  clear hge hi
  refine loop_kit_Bulk_3 (I := fun n x1 x2 x5 x6 S' => S3.le S' ∧ x1 = .int .i64 (N : Int) ∧ x2 = .ptr k 0 ∧ ∃ (i : Nat) (p : Int), x6 = .int .i64 (i : Int) ∧ x5 = .int .i64 p ∧ i + n = m.funcs.length ∧ q ≤ p ∧ p < 2 ^ 50 ∧ ∀ r ∈ m.funcs.take i, (r.params.length : Int) ≤ p ∧ r.results.length ≤ p ∧ r.code.length ≤ p) ?_ (n := m.funcs.length)
    ⟨DSt.le_refl _, rfl, rfl, 0, _, rfl, rfl, by omega, by omega, by omega, by simp⟩
  rintro n _ _ _ _ S4 ⟨hle4, rfl, rfl, i, p, rfl, rfl, hi, p1, p2, hp⟩
  have h04 := hle4 _ _ h0
  unfold B_kit_Bulk_3
  simp only [ofP, oD, ldP h04, Nat.zero_add, xa2, rosD_len, biLt]
  refine whileAnd ?_
  rw [← Bool.decide_and, cdI]
  refine ⟨fun ⟨hlt, hsN⟩ => ?_, fun hge => ?_⟩
  · have hlt : i < m.funcs.length := by omega
    obtain ⟨r, hr⟩ : ∃ r, r = m.funcs[i] := ⟨_, rfl⟩
    have ea : m.funcs[i]? = some r := by rw [List.getElem?_eq_getElem hlt, hr]
    have hrk := hm.ro r (by rw [hr]; exact List.getElem_mem _)
    have l1 := hrk.name; have l2 := hrk.params; have l3 := hrk.results; have l4 := hrk.code
    simp only [rosD_at ea, oD, laRo]
    intro k5 a5 n5
    refine stP (ds := roR r) (DSt.set_same _ _ _) (clA _) ⟨rfl, by decide, by simp [roR]⟩ fun a6 => ?_
    rw [DSt.set_set]
    have h5 : ∀ j, loadSc (S4.set k5 ⟨[D.str [], .nilSlc, .nilSlc, .int .i64 0, .int .i64 0, .nilSlc].length, [setManyD [D.str [], .nilSlc, .nilSlc, .int .i64 0, .int .i64 0, .nilSlc] 0 (roR r)], a6⟩) (.ptr k5 j) = (roR r)[j]? := fun j => ldP (DSt.set_same _ _ _)
    simp only [ofP, oD, h5, Nat.zero_add, show (roR r)[0]? = some (.str r.name) from rfl, show (roR r)[1]? = some (iD r.params) from rfl, show (roR r)[2]? = some (iD r.results) from rfl, show (roR r)[5]? = some (bD r.code) from rfl, lnS, iD_len, bD_len, biAdd]
    rw [show IntKind.i64.wrap (p + r.name.length) = _ from wrap_i64 (by omega) (by omega), show IntKind.i64.wrap (p + r.name.length + r.params.length) = _ from wrap_i64 (by omega) (by omega), show IntKind.i64.wrap (p + r.name.length + r.params.length + r.results.length) = _ from wrap_i64 (by omega) (by omega), show IntKind.i64.wrap (p + r.name.length + r.params.length + r.results.length + r.code.length) = _ from wrap_i64 (by omega) (by omega), show IntKind.i64.wrap ((i : Int) + 1) = _ from wrap_i64 (by omega) (by omega)]
    refine ⟨n - 1, by omega, DSt.le_trans hle4 (DSt.le_new n5), by trivial, by trivial, i + 1, _, rfl, rfl, by omega, by omega, by omega, fun r' hr' => ?_⟩
    rw [List.take_add_one, ea, Option.toList_some] at hr'
    rcases List.mem_append.1 hr' with h | h
    · have := hp r' h; omega
    · rw [List.mem_singleton.1 h]; omega
  · refine FinD.less (DSt.le_trans hle hle4) (FinD.here ⟨rfl, p, rfl, fun hpN => ?_⟩)
    have : i = m.funcs.length := by
      by_cases c : i < m.funcs.length
      · exact (hge ⟨by omega, hpN⟩).elim
      · omega
    rw [this, List.take_length] at hp
    exact ⟨by omega, by omega, by omega, fun t ht => by have := hs (by omega) t ht; omega, fun r hr => by have := hp r hr; omega⟩
end
end Go.Proofs.Ytchnpgddpaonhaa.d
end

section
open Go.Proofs Go Go.Am Go.Op
namespace Go.Proofs.Ytchnpgddpaonhaa.d
set_option linter.unusedVariables false
set_option linter.unusedSimpArgs false
set_option maxRecDepth 100000
@[simp] theorem fldsD_rows (S : DSt) (l : List (Tx × Int)) : rowsS S 2 (fldsD l) = some (l.map fldR) := by simp [fldsD, rowsS, rowsOf]
@[simp] theorem txsD_rows (S : DSt) (l : List Tx) : rowsS S 1 (txsD l) = some (ones (l.map D.str)) := by simp [txsD, rowsS, rowsOf]
theorem Grw.cells {S0 S : DSt} {t : D} {rows : List (List D)} {sz : Nat} (g : Grw S0 t rows sz S) : cellsD t = some [t] := by rcases g with ⟨rfl, _⟩ | ⟨_, _, _, rfl, _⟩ <;> rfl
/-- The small bounds of what may be lent. -/
structure Mo.Fits (m : Mo) : Prop where
  ok : m.Ok
  types : m.types.length < 2 ^ 30
  texts : m.texts.length < 2 ^ 30
  funcs : m.funcs.length < 2 ^ 30
  fields : ∀ t ∈ m.types, t.fields.length < 2 ^ 30
  params : ∀ r ∈ m.funcs, r.params.length < 2 ^ 30 ∧ r.results.length < 2 ^ 30 ∧ r.code.length < 2 ^ 30
section
variable {E : Env} {w0 : World}
end
end Go.Proofs.Ytchnpgddpaonhaa.d
end

section
namespace Go.Am
set_option linter.unusedVariables false
set_option linter.unusedSimpArgs false
theorem DSt.set_self {S : DSt} {k : Nat} {o : DObj} (h : S k = some o) : S.set k o = S := by
  funext j; unfold DSt.set
  by_cases e : j = k
  · subst e; rw [if_pos rfl, h]
  · rw [if_neg e]
theorem DSt.ne_of {S : DSt} {k l : Nat} {o : DObj} (h : S k = some o) (n : S l = Option.none) : k ≠ l := fun e => by rw [e, n] at h; cases h
theorem DSt.none_of {S S' : DSt} (h : S.le S') {k : Nat} (hk : S' k = Option.none) : S k = Option.none := by
  cases e : S k with
  | none => rfl
  | some o => rw [h _ _ e] at hk; cases hk
/-- An object of one row. -/
def Cel (S : DSt) (k sz : Nat) (c : List D) : Prop := ∃ a, S k = some ⟨sz, [c], a⟩
section
variable {S S' : DSt} {k l sz sz' : Nat} {c c' : List D}
theorem Cel.new {a : List AV} : Cel (S.set k ⟨sz, [c], a⟩) k sz c := ⟨a, DSt.set_same _ _ _⟩
theorem Cel.set_ne (h : Cel S k sz c) {o : DObj} (hn : k ≠ l) : Cel (S.set l o) k sz c := by
  obtain ⟨a, h⟩ := h; exact ⟨a, by rw [DSt.set_ne _ _ _ hn]; exact h⟩
theorem Cel.none (h : Cel S k sz c) (hn : S l = Option.none) : k ≠ l := by
  obtain ⟨a, h⟩ := h; exact DSt.ne_of h hn
theorem Cel.set (h : Cel S k sz c) {o : DObj} (hn : S l = Option.none) : Cel (S.set l o) k sz c := h.set_ne (h.none hn)
theorem Cel.of (h : Cel S k sz c) (e : S' k = S k) : Cel S' k sz c := by
  obtain ⟨a, h⟩ := h; exact ⟨a, by rw [e]; exact h⟩
theorem Cel.le (h : Cel S k sz c) (hl : S.le S') : Cel S' k sz c := by
  obtain ⟨a, h⟩ := h; exact ⟨a, hl _ _ h⟩
theorem Cel.ne (h : Cel S k sz c) (h' : Cel S l sz' c') (hs : sz ≠ sz') : k ≠ l := fun e => by
  obtain ⟨a, h⟩ := h; obtain ⟨b, h'⟩ := h'; subst e; rw [h] at h'; cases h'; exact hs rfl
theorem Cel.there (h : Cel S k sz c) : S k ≠ Option.none := by
  obtain ⟨a, h⟩ := h; rw [h]; simp
theorem Cel.ld (h : Cel S k sz c) (i : Nat) : loadSc S (.ptr k i) = c[i]? := by obtain ⟨a, h⟩ := h; exact ldP h
theorem Cel.la (h : Cel S k sz c) {i n : Nat} (hn : 0 < n ∧ i + n ≤ c.length) : loadAg S n (.ptr k i) = some (.agg ((c.drop i).take n)) := by obtain ⟨a, h⟩ := h; exact laP h hn
theorem Cel.all (h : Cel S k sz c) {n : Nat} (hn : 0 < n) (hl : n = c.length) : loadAg S n (.ptr k 0) = Option.some (.agg c) := by
  rw [h.la ⟨hn, by omega⟩, List.drop_zero, List.take_of_length_le (by omega)]
theorem Cel.st (h : Cel S k sz c) {i n : Nat} {v : D} {ds : List D} {K : D → DSt → Prop} (hv : cellsD v = Option.some ds) (hn : ds.length = n ∧ 0 < n ∧ i + n ≤ c.length) (hK : ∀ a, K undefD (S.set k ⟨sz, [setManyD c i ds], a⟩)) : storeD S n (.ptr k i) v K := by
  obtain ⟨a, h⟩ := h; exact stP h hv hn hK
end
/-- A slice that grows, an object of its own: none of 'av'. -/
def GrA (S0 : DSt) (av : List Nat) (t : D) (rows : List (List D)) (sz : Nat) (S : DSt) : Prop :=
  (t = .nilSlc ∧ rows = []) ∨ ∃ k acs, S0 k = Option.none ∧ k ∉ av ∧ t = .raw k 0 rows.length rows.length false sz ∧ S k = some ⟨sz, rows, acs⟩
section
variable {S0 S : DSt} {av : List Nat} {t : D} {rows : List (List D)} {sz : Nat}
theorem GrA.nil : GrA S0 av .nilSlc [] sz S := .inl ⟨rfl, rfl⟩
theorem GrA.of (h : GrA S0 av t rows sz S) {S' : DSt} (e : ∀ k o, k ∉ av → S k = some o → S' k = some o) : GrA S0 av t rows sz S' := by
  rcases h with h | ⟨k, acs, h0, h1, h2, h3⟩
  · exact .inl h
  · exact .inr ⟨k, acs, h0, h1, h2, e _ _ h1 h3⟩
theorem GrA.set (h : GrA S0 av t rows sz S) {l : Nat} {o : DObj} (hl : l ∈ av ∨ S l = Option.none) : GrA S0 av t rows sz (S.set l o) := h.of fun k o' hk e => by
  rw [DSt.set_ne]
  · exact e
  · rintro rfl
    rcases hl with hl | hl
    · exact hk hl
    · rw [hl] at e; cases e
theorem GrA.le (h : GrA S0 av t rows sz S) {S' : DSt} (hl : S.le S') : GrA S0 av t rows sz S' := h.of fun k o _ e => hl _ _ e
theorem GrA.push (h : GrA S0 av t rows sz S) (hle : S0.le S) (hav : ∀ j ∈ av, S j ≠ Option.none) {bytes : Nat} {v : D} {news : List (List D)} (hv : rowsS S sz v = some news) (hn : news ≠ []) (hb : 0 < bytes ∧ (2 * (rows.length + news.length) + 768) * bytes ≤ 2 ^ 47) {K : D → DSt → Prop}
    (hK : ∀ t' S', S0.le S' → (∀ j ∈ av, S' j = S j) → GrA S0 av t' (rows ++ news) sz S' → K t' S') : appendD S sz bytes t v K := by
  simp only [appendD, hv]
  rcases h with ⟨rfl, rfl⟩ | ⟨k, acs, h0, h1, rfl, h3⟩
  · simp only [growD]
    rw [if_neg hn]
    refine ⟨⟨hb.1, by simpa using hb.2⟩, .inr fun k acs hk => hK _ _ (DSt.le_set hle (DSt.none_of hle hk)) (fun j hj => DSt.set_ne _ _ _ fun e => hav j hj (by rw [e]; exact hk)) (.inr ⟨k, acs, DSt.none_of hle hk, fun hm => hav k hm hk, by simp, by simpa using DSt.set_same _ _ _⟩)⟩
  · simp only [growD]
    rw [if_neg hn, h3]
    simp only
    rw [if_pos ⟨by trivial, by trivial, by omega⟩]
    have hke : ∀ j ∈ av, (S.erase k) j = S j := fun j hj => DSt.erase_ne _ _ fun e => h1 (e ▸ hj)
    refine ⟨hb, .inr fun k' acs' hk' => ?_⟩
    have hle' := DSt.le_erase hle h0
    refine hK _ _ (DSt.le_set hle' (DSt.none_of hle' hk')) (fun j hj => ?_) (.inr ⟨k', acs', DSt.none_of hle' hk', fun hm => hav k' hm (by rw [← hke k' hm]; exact hk'), by simp, ?_⟩)
    · rw [DSt.set_ne, hke j hj]
      rintro rfl
      exact hav j hj (by rw [← hke j hj]; exact hk')
    · rw [DSt.set_same]; simp
theorem GrA.grw (h : GrA S0 av t rows sz S) (hle : S0.le S) : ∃ S', S'.le S ∧ Grw S0 t rows sz S' := by
  rcases h with ⟨rfl, rfl⟩ | ⟨k, acs, h0, h1, rfl, h3⟩
  · exact ⟨S0, hle, .inl ⟨rfl, rfl, rfl⟩⟩
  · refine ⟨S0.set k ⟨sz, rows, acs⟩, fun j o e => ?_, .inr ⟨k, acs, h0, rfl, rfl⟩⟩
    unfold DSt.set at e
    split at e
    · rename_i hj; subst hj; cases e; exact h3
    · exact hle _ _ e
theorem GrA.len (h : GrA S0 av t rows sz S) : lenSl t = some (.int .i64 rows.length) := by
  rcases h with ⟨rfl, rfl⟩ | ⟨k, acs, _, _, rfl, _⟩ <;> rfl
theorem GrA.cells (h : GrA S0 av t rows sz S) : cellsD t = some [t] := by
  rcases h with ⟨rfl, rfl⟩ | ⟨k, acs, _, _, rfl, _⟩ <;> rfl
end
/-- A contract's end, told anew. -/
theorem DFn.fin {P : Program} {E : Env} {w0 : World} {x : Bool} {f : FuncId} {ds : List D} {S : DSt} {Q Q' : D → DSt → Prop} (h : DFn P E w0 x f ds S Q) (hq : ∀ d S', Q d S' → FinD E Q' d S') : DFn P E w0 x f ds S Q' := fun R H avs hF hC ha => by
  refine fnF_good _ _ _ _ _ (h R H avs hF hC ha) fun v H' ⟨F', R', S', d, a, b, c, e⟩ => ?_
  obtain ⟨R2, S2, d2, a2, b2, c2, e2⟩ := hq _ _ e R' H' v b c
  exact ⟨F', R2, S2, d2, Fz.le_trans a a2, b2, c2, e2⟩
end Go.Am
end

section
open Go.Proofs Go Go.Am
namespace Go.Proofs.Ytchnpgddpaonhaa.d
set_option linter.unusedVariables false
set_option maxRecDepth 100000
/- trammel/trammellaw13.ImageSame -/
def lo_law13_ImageUnlike : List (Nat × List Nat) := []
def cu_law13_ImageUnlike : List (Nat × List Nat) := []
def V_law13_ImageUnlike (E : Env) (w0 : World) (x : Bool) (Q : D → DSt → Prop) (a0 a1 : D) (S : DSt) : Prop :=
  optW (cellsD a0) fun cs => allocD S cs fun v0 S1 =>
  optW (cellsD a1) fun cs => allocD S1 cs fun v2 S3 =>
  optW (loadAg S3 3 v0) fun v4 =>
  DFn Try.prog E w0 x f_kit_Bulk [v4, (.int .i64 100000)] S3 fun v5 S6 =>
  optW (binI .gtr v5 (.int .i64 100000)) fun v7 =>
  optW (valGD (wantsD v7 false) (loadAg S6 3 v2)) fun v8 =>
  guardD (wantsD v7 false) (fun K => DFn Try.prog E w0 x f_kit_Bulk [v8, (.int .i64 100000)] S6 K) S6 fun v9 S10 =>
  optW (valGD (wantsD v7 false) (binI .gtr v9 (.int .i64 100000))) fun v11 =>
  optW (pickD v7 (.bool true) v11) fun v12 =>
  condD v12
  (DFn Try.prog E w0 x f_law13_works [] S10 fun v13 S14 =>
  Q v13 S14)
  (optW (loadAg S10 3 v0) fun v15 =>
  DFn Try.prog E w0 x f_image_Encode [v15] S10 fun v16 S17 =>
  optW (extractD v16 0) fun v18 =>
  optW (extractD v16 1) fun v19 =>
  optW (loadAg S17 3 v2) fun v20 =>
  DFn Try.prog E w0 x f_image_Encode [v20] S17 fun v21 S22 =>
  optW (extractD v21 0) fun v23 =>
  optW (extractD v21 1) fun v24 =>
  optW (binI .neq v19 (.int .i64 0)) fun v25 =>
  optW (valGD (wantsD v25 false) (some v24)) fun v26 =>
  optW (valGD (wantsD v25 false) (binI .neq v26 (.int .i64 0))) fun v27 =>
  optW (pickD v25 (.bool true) v27) fun v28 =>
  condD v28
  (DFn Try.prog E w0 x f_law13_works [] S22 fun v29 S30 =>
  Q v29 S30)
  (optW (convBS S22 v18) fun v31 => (True) ∧
  optW (convBS S22 v23) fun v32 => (True) ∧
  optW (binS .eql v31 v32) fun v33 =>
  optW (loadAg S22 3 v0) fun v34 => (True) ∧
  optW (loadAg S22 3 v2) fun v35 => (True) ∧
  DF E (FnX Try.prog E w0) f_kit_SameModule [v34, v35] S22 fun v36 S37 => (footW v18 S22 S37 ∧ footW v23 S22 S37 ∧ True) ∧
  optW (eqOp .eql (eqBo v33 v36)) fun v38 =>
  guardD (wantsD v38 true) (fun K => DF E (FnX Try.prog E w0) f_law13_works [] S37 K) S37 fun v39 S40 => (True) ∧
  optW (pickD v38 v39 (.bool false)) fun v41 =>
  Q v41 S40))
theorem V_law13_ImageUnlike_ok {E : Env} {w0 : World} {x : Bool} {Q : D → DSt → Prop} {a0 a1 : D} {S : DSt} (h : V_law13_ImageUnlike E w0 x (FinD E Q) a0 a1 S) : DFn Try.prog E w0 x f_law13_ImageUnlike [a0, a1] S Q :=
  fnD_of_vc lo_law13_ImageUnlike cu_law13_ImageUnlike (fn := Try.f3) (c := Try.f3.body.getD .skip) mixed Try.func3 (by kernel_rfl) (by kernel_rfl) h
end Go.Proofs.Ytchnpgddpaonhaa.d
end

section
open Go.Proofs Go Go.Am Go.Op
namespace Go.Proofs.Ytchnpgddpaonhaa.d
set_option linter.unusedVariables false
set_option linter.unusedSimpArgs false
set_option maxRecDepth 100000
section
variable {E : Env} {w0 : World}
/-- A closed function, by one run. -/
theorem run_ok {f : FuncId} {n : Nat} (h : (callFA Try.prog (fun _ => none) noOv n f [] AHeap.empty).map (·.1) = some (.bool true)) : Pure Try.prog E w0 f [] (.bool true) := fun x S => by
  have key : ∀ H, FnX Try.prog E w0 f [] H fun v H' => v = .bool true ∧ H' = H := fun H => by
    cases hr : callFA Try.prog (fun _ => none) noOv n f [] AHeap.empty with
    | none => rw [hr] at h; cases h
    | some r =>
      obtain ⟨v, H1⟩ := r
      rw [hr] at h
      simp only [Option.map_some, Option.some.injEq] at h
      subst h
      refine (fnX_pure mixed hr ?_ ?_).mono fun v' H' h => h
      · intro ρ vs h
        exact h
      · intro ρ ρ' u h
        exact h
  refine DFn.any ?_
  intro R H avs hF hC ha
  have : avs = [] := by simpa only [RpL] using ha
  subst this
  refine (key H).mono ?_
  rintro v H' ⟨rfl, rfl⟩
  exact ⟨hF, R, S, .bool true, Fz.le_refl R, hC, by simp only [Rp], rfl, rfl⟩
theorem works13_ok : Pure Try.prog E w0 f_law13_works [] (.bool true) := run_ok (n := 400) (by kernel_rfl)
theorem Mo.Small.fits {m : Mo} {N : Nat} (hm : m.Ok) (h : m.Small N) (hN : N < 2 ^ 30) : m.Fits :=
  ⟨hm, by have := h.types; omega, by have := h.texts; omega, by have := h.funcs; omega, fun t ht => by have := h.fields t ht; omega, fun r hr => by have := h.params r hr; omega⟩
end
end Go.Proofs.Ytchnpgddpaonhaa.d
end
