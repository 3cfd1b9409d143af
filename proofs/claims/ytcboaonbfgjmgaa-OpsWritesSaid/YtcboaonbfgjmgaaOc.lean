/-
  Instructions: what stands behind an Op.
-/
import Derived.Test.YtcboaonbfgjmgaaOb
open Go.Proofs Go Go.Am
namespace Go.Proofs.Ytcboaonbfgjmgaa.op
open Go.Proofs.Ytcboaonbfgjmgaa.vb
set_option linter.unusedVariables false
set_option linter.unusedSimpArgs false
set_option maxRecDepth 100000

variable {E : Env} {w0 : World}

def fIx : Fd := ⟨2, 0, 65535⟩
def fLeap : Fd := ⟨4, 0, 4294967295⟩
def fWid : Fd := ⟨1, 1, 3⟩
def lay3 (b : Bool) (op : Int) : Option (List Fd) :=
  if b then some [fLeap] else if op = 52 then some [⟨1, 0, 255⟩] else if op = 49 then some [fWid]
  else if 11 ≤ op ∧ op ≤ 28 then some [fWid] else if 1 ≤ op ∧ op ≤ 52 then some [] else none
def lay2 (b : Bool) (op : Int) : Option (List Fd) :=
  if b then some [⟨1, 1, 5⟩] else if op = 29 then some [fWid, fWid] else lay3 (op == 46 || op == 47 || op == 48) op
def lay1 (b : Bool) (op : Int) : Option (List Fd) := if b then some [fIx, fIx] else lay2 (op == 23 || op == 24) op
def lay0 (b : Bool) (op : Int) : Option (List Fd) := if b then some [fIx] else lay1 (op == 37 || op == 38) op
/-- What stands behind an Op. -/
def lay (op : Int) : Option (List Fd) :=
  if op = 1 then some [⟨1, fitLo 1, fitHi 1⟩] else if op = 2 then some [⟨4, fitLo 2, fitHi 2⟩] else if op = 3 then some [⟨8, fitLo 3, fitHi 3⟩]
  else lay0 (op == 6 || op == 7 || op == 8 || op == 50 || op == 36 || op == 39 || op == 40 || op == 41 || op == 42 || op == 43 || op == 44 || op == 45) op

theorem build_81n (n : Int) (a b : AV) : buildA Try.prog 81 [(0, .int .i64 n), (1, .fn (.func 68) [] [a, b])] = some (.agg [.int .i64 n, .fn (.func 68) [] [a, b]]) := by kernel_rfl
theorem build_81m (n : Int) (a : AV) : buildA Try.prog 81 [(0, .int .i64 n), (1, .fn (.func 69) [] [a])] = some (.agg [.int .i64 n, .fn (.func 69) [] [a]]) := by kernel_rfl
theorem build_81 {X : Nat → Prop} {H : AHeap} {fv : AV} {lo hi : Int} (h : MayAt X H fv lo hi) (n : Int) : buildA Try.prog 81 [(0, .int .i64 n), (1, fv)] = some (.agg [.int .i64 n, fv]) := by
  rcases h with ⟨k1, k2, p1, p2, rfl, _⟩ | ⟨k, p, w, rfl, _⟩
  · exact build_81n ..
  · exact build_81m ..
theorem bs_75 (H : AHeap) (a b : AV) : buildSliceA Try.prog H 75 1 [(0, .agg [a, b])] = some (.slc (.new H.next) 0 1 1 true 2, newCells H [a, b]) := by kernel_rfl
theorem bs2_75 (H : AHeap) (a b c d : AV) : buildSliceA Try.prog H 75 2 [(0, .agg [a, b]), (1, .agg [c, d])] = some (.slc (.new H.next) 0 2 2 true 2, newCells H [a, b, c, d]) := by kernel_rfl
theorem sz_81 {a b : AV} : sizeA Try.prog 81 = some (AV.cells (.agg [a, b])).length := by kernel_rfl

section
variable {H : AHeap} {X : Nat → Prop} {k4 k5 k6 : Nat}
/-- A field in a box. -/
def BoxAt (X : Nat → Prop) (H : AHeap) (k : Nat) (f : Fd) : Prop := ∃ fv pre, H.get k = some (.cells [.int .i64 (f.size : Int), fv] true pre) ∧ MayAt X H fv f.lo f.hi
theorem BoxAt.load {k : Nat} {f : Fd} (h : BoxAt X H k f) : ∃ fv, loadV Try.prog E H 81 (.ptr (.new k) 0) = some (.agg [.int .i64 (f.size : Int), fv]) ∧ MayAt X H fv f.lo f.hi := by
  obtain ⟨fv, pre, g, m⟩ := h
  refine ⟨fv, ?_, m⟩
  rw [ld_81, loadRange_new E g, if_pos (by simp)]
  rfl

/-- A slice of one field, and of two. -/
theorem one_field (F : Fine H) {f : Fd} {fv : AV} (m : MayAt X H fv f.lo f.hi) (hX : ∀ k, H.next ≤ k → X k) {K : AV → AHeap → Prop} (hK : ∀ lv H', FieldsAt X H' lv [f] → Stays H H' → K lv H') : opt2W (buildSliceA Try.prog H 75 1 [(0, .agg [.int .i64 (f.size : Int), fv])]) K := by
  rw [bs_75, o2S]
  obtain ⟨a, b, c, d⟩ := F.newCells [AV.int .i64 (f.size : Int), fv]
  refine hK _ _ (.inr ⟨H.next, 1, true, _, _, rfl, a, hX _ (Nat.le_refl _), fun j g hj => ?_⟩) b
  cases j with
  | zero => cases hj; exact ⟨fv, rfl, m.keep (Keeps.of b)⟩
  | succ j => simp at hj
theorem two_fields (F : Fine H) {f g : Fd} {fv gv : AV} (m : MayAt X H fv f.lo f.hi) (m2 : MayAt X H gv g.lo g.hi) (hX : ∀ k, H.next ≤ k → X k) {K : AV → AHeap → Prop} (hK : ∀ lv H', FieldsAt X H' lv [f, g] → Stays H H' → K lv H') :
    opt2W (buildSliceA Try.prog H 75 2 [(0, .agg [.int .i64 (f.size : Int), fv]), (1, .agg [.int .i64 (g.size : Int), gv])]) K := by
  rw [bs2_75, o2S]
  obtain ⟨a, b, c, d⟩ := F.newCells [AV.int .i64 (f.size : Int), fv, .int .i64 (g.size : Int), gv]
  refine hK _ _ (.inr ⟨H.next, 2, true, _, _, rfl, a, hX _ (Nat.le_refl _), fun j f' hj => ?_⟩) b
  cases j with
  | zero => cases hj; exact ⟨fv, rfl, m.keep (Keeps.of b)⟩
  | succ j =>
    cases j with
    | zero => cases hj; exact ⟨gv, rfl, m2.keep (Keeps.of b)⟩
    | succ j => simp at hj

variable (F : Fine H) (hX : ∀ k, H.next ≤ k → X k)
include F hX
theorem new_field {lo hi : Int} {s : Nat} {Q : AV → AHeap → Prop} (hQ : ∀ lv H', FieldsAt X H' lv [⟨s, lo, hi⟩] → Stays H H' → Q (.tup [lv, .bool true]) H') :
    FnX Try.prog E w0 45 [.int .i64 lo, .int .i64 hi] H fun v H1 => optW (buildA Try.prog 81 [(0, .int .i64 (s : Int)), (1, v)]) fun a => opt2W (buildSliceA Try.prog H1 75 1 [(0, a)]) fun lv H2 => Q (.tup [lv, .bool true]) H2 := by
  refine (between_ok F).use ?_
  rintro v H1 ⟨m, s1⟩ F1 n1
  rw [build_81 m, oS]
  exact one_field F1 (f := ⟨s, lo, hi⟩) (m.less F1 fun k _ hk => hX k hk) (fun k hk => hX k (by omega)) fun lv H' hf hs => hQ lv H' hf (stays_trans s1 hs)
theorem new_fits {w : Int} {s : Nat} {Q : AV → AHeap → Prop} (hQ : ∀ lv H', FieldsAt X H' lv [⟨s, fitLo w, fitHi w⟩] → Stays H H' → Q (.tup [lv, .bool true]) H') :
    FnX Try.prog E w0 46 [.int .u8 w] H fun v H1 => optW (buildA Try.prog 81 [(0, .int .i64 (s : Int)), (1, v)]) fun a => opt2W (buildSliceA Try.prog H1 75 1 [(0, a)]) fun lv H2 => Q (.tup [lv, .bool true]) H2 := by
  refine (fitsF_ok F).use ?_
  rintro v H1 ⟨m, s1⟩ F1 n1
  rw [build_81 m, oS]
  exact one_field F1 (f := ⟨s, fitLo w, fitHi w⟩) (m.less F1 fun k _ hk => hX k hk) (fun k hk => hX k (by omega)) fun lv H' hf hs => hQ lv H' hf (stays_trans s1 hs)
theorem box_field {k : Nat} {f : Fd} (hb : BoxAt X H k f) {Q : AV → AHeap → Prop} (hQ : ∀ lv H', FieldsAt X H' lv [f] → Stays H H' → Q (.tup [lv, .bool true]) H') :
    optW (loadV Try.prog E H 81 (.ptr (.new k) 0)) fun a => opt2W (buildSliceA Try.prog H 75 1 [(0, a)]) fun lv H2 => Q (.tup [lv, .bool true]) H2 := by
  obtain ⟨fv, l, m⟩ := hb.load (E := E)
  rw [l, oS]
  exact one_field F m hX hQ
theorem box_fields {k : Nat} {f : Fd} (hb : BoxAt X H k f) {Q : AV → AHeap → Prop} (hQ : ∀ lv H', FieldsAt X H' lv [f, f] → Stays H H' → Q (.tup [lv, .bool true]) H') :
    optW (loadV Try.prog E H 81 (.ptr (.new k) 0)) fun a => optW (loadV Try.prog E H 81 (.ptr (.new k) 0)) fun b => opt2W (buildSliceA Try.prog H 75 2 [(0, a), (1, b)]) fun lv H2 => Q (.tup [lv, .bool true]) H2 := by
  obtain ⟨fv, l, m⟩ := hb.load (E := E)
  rw [l, oS, oS]
  exact two_fields F m m hX hQ

theorem j3 (h5 : BoxAt X H k5 fLeap) (h6 : BoxAt X H k6 fWid) {op : Int} {b : Bool} {Q : AV → AHeap → Prop} (hQ : ∀ lv H', FieldsAt X H' lv ((lay3 b op).getD []) → Stays H H' → Q (.tup [lv, .bool (lay3 b op).isSome]) H') :
    J40_3 E w0 Q (.int .u8 op) (.ptr (.new k5) 0) (.ptr (.new k6) 0) (.int .u8 op) (.bool b) H := by
  unfold J40_3
  unfold lay3 at hQ
  cases b with
  | true => rw [cT]; exact box_field F hX h5 hQ
  | false =>
    rw [cF, eqv_5, oS, condW_bool]
    simp only [Bool.false_eq_true, if_false] at hQ
    refine ⟨fun h => ?_, fun h => ?_⟩
    · rw [if_pos (by simpa using h)] at hQ; exact new_field F hX hQ
    rw [if_neg (by simpa using h)] at hQ
    rw [eqv_5, oS, condW_bool]
    refine ⟨fun h => ?_, fun h => ?_⟩
    · rw [if_pos (by simpa using h)] at hQ; exact box_field F hX h6 hQ
    rw [if_neg (by simpa using h)] at hQ
    by_cases h1 : 11 ≤ op ∧ op ≤ 28
    · rw [if_pos h1] at hQ
      simp only [bin_geq, bin_leq, oS, dT (show op ≥ 11 from h1.1), dT h1.2, wB, btt, vT, pB, if_true, cT]
      exact box_field F hX h6 hQ
    rw [if_neg h1] at hQ
    have e1 : ∀ (T1 T2 : AV → AV → AV → Prop), (∀ a b c, T2 a b c) → optW (valG (wantsA (.bool (decide (op ≥ 11))) true) (some (.int .u8 op))) fun v73 => optW (valG (wantsA (.bool (decide (op ≥ 11))) true) (binA Try.prog .leq 5 v73 (.int .u8 28))) fun v74 => optW (pickV (.bool (decide (op ≥ 11))) v74 (.bool false)) fun v75 => condW v75 (T1 v73 v74 v75) (T2 v73 v74 v75) := by
      intro T1 T2 hT
      by_cases ha : op ≥ 11
      · simp only [dT ha, wB, btt, vT, oS, bin_leq, dF (show ¬ op ≤ 28 by omega), pB, if_true, cF]
        exact hT _ _ _
      · simp only [dF ha, wB, bft, vF, oS, pB, Bool.false_eq_true, if_false, cF]
        exact hT _ _ _
    rw [bin_geq, oS]
    refine e1 _ _ fun _ _ _ => ?_
    by_cases ha : op ≥ 1
    · by_cases hb : op ≤ 52
      · simp only [bin_geq, bin_leq, oS, dT ha, dT hb, wB, btt, vT, pB, if_true]
        rw [if_pos ⟨ha, hb⟩] at hQ
        exact hQ _ _ (.inl ⟨rfl, rfl⟩) (fun _ _ _ h => h)
      · simp only [bin_geq, bin_leq, oS, dT ha, dF hb, wB, btt, vT, pB, if_true]
        rw [if_neg (by omega)] at hQ
        exact hQ _ _ (.inl ⟨rfl, rfl⟩) (fun _ _ _ h => h)
    · simp only [bin_geq, oS, dF ha, wB, bft, vF, pB, Bool.false_eq_true, if_false]
      rw [if_neg (by omega)] at hQ
      exact hQ _ _ (.inl ⟨rfl, rfl⟩) (fun _ _ _ h => h)

theorem j2 (h5 : BoxAt X H k5 fLeap) (h6 : BoxAt X H k6 fWid) {op : Int} {b : Bool} {Q : AV → AHeap → Prop} (hQ : ∀ lv H', FieldsAt X H' lv ((lay2 b op).getD []) → Stays H H' → Q (.tup [lv, .bool (lay2 b op).isSome]) H') :
    J40_2 E w0 Q (.int .u8 op) (.ptr (.new k5) 0) (.ptr (.new k6) 0) (.int .u8 op) (.bool b) H := by
  unfold J40_2
  unfold lay2 at hQ
  cases b with
  | true => rw [cT]; exact new_field F hX hQ
  | false =>
    rw [cF, eqv_5, oS, condW_bool]
    simp only [Bool.false_eq_true, if_false] at hQ
    refine ⟨fun h => ?_, fun h => ?_⟩
    · rw [if_pos (by simpa using h)] at hQ; exact box_fields F hX h6 hQ
    rw [if_neg (by simpa using h)] at hQ
    simp only [eqv_5, oS, condW_bool]
    refine ⟨fun h => ?_, fun h => ⟨fun h' => ?_, fun h' => ?_⟩⟩
    · rw [h]; refine j3 F hX h5 h6 ?_; simpa [h] using hQ
    · rw [h']; refine j3 F hX h5 h6 ?_; simpa [h, h'] using hQ
    · refine j3 F hX h5 h6 ?_; simpa [h, h'] using hQ

theorem j1 (h4 : BoxAt X H k4 fIx) (h5 : BoxAt X H k5 fLeap) (h6 : BoxAt X H k6 fWid) {op : Int} {b : Bool} {Q : AV → AHeap → Prop} (hQ : ∀ lv H', FieldsAt X H' lv ((lay1 b op).getD []) → Stays H H' → Q (.tup [lv, .bool (lay1 b op).isSome]) H') :
    J40_1 E w0 Q (.int .u8 op) (.ptr (.new k4) 0) (.ptr (.new k5) 0) (.ptr (.new k6) 0) (.int .u8 op) (.bool b) H := by
  unfold J40_1
  unfold lay1 at hQ
  cases b with
  | true => rw [cT]; exact box_fields F hX h4 hQ
  | false =>
    rw [cF]
    simp only [Bool.false_eq_true, if_false] at hQ
    simp only [eqv_5, oS, condW_bool]
    refine ⟨fun h => ?_, fun h => ?_⟩
    · rw [h]; refine j2 F hX h5 h6 ?_; simpa [h] using hQ
    · refine j2 F hX h5 h6 ?_; simpa [h] using hQ

theorem j0 (h4 : BoxAt X H k4 fIx) (h5 : BoxAt X H k5 fLeap) (h6 : BoxAt X H k6 fWid) {op : Int} {b : Bool} {Q : AV → AHeap → Prop} (hQ : ∀ lv H', FieldsAt X H' lv ((lay0 b op).getD []) → Stays H H' → Q (.tup [lv, .bool (lay0 b op).isSome]) H') :
    J40_0 E w0 Q (.int .u8 op) (.ptr (.new k4) 0) (.ptr (.new k5) 0) (.ptr (.new k6) 0) (.int .u8 op) (.bool b) H := by
  unfold J40_0
  unfold lay0 at hQ
  cases b with
  | true => rw [cT]; exact box_field F hX h4 hQ
  | false =>
    rw [cF]
    simp only [Bool.false_eq_true, if_false] at hQ
    simp only [eqv_5, oS, condW_bool]
    refine ⟨fun h => ?_, fun h => ?_⟩
    · rw [h]; refine j1 F hX h4 h5 h6 ?_; simpa [h] using hQ
    · refine j1 F hX h4 h5 h6 ?_; simpa [h] using hQ
end

theorem two_scalar {n : Int} {fv : AV} (h : Am.scalar fv = true) : [AV.int .i64 n, fv].all Am.scalar = true := by
  simp only [List.all_cons, List.all_nil, h]
  rfl

theorem layout_ok {H : AHeap} (F : Fine H) {op : Int} : FnX Try.prog E w0 40 [.int .u8 op] H fun v H' => ∃ lv, v = .tup [lv, .bool (lay op).isSome] ∧ FieldsAt (fun k => H.next ≤ k) H' lv ((lay op).getD []) ∧ Stays H H' := by
  refine V40_ok ?_
  unfold V40
  refine (between_ok F).use ?_
  rintro v1 H1 ⟨m1, s1⟩ F1 n1
  rw [build_81 m1, oS]
  refine (between_ok F1).use ?_
  rintro v2 H2 ⟨m2, s2⟩ F2 n2
  rw [build_81 m2, oS, zero_81]
  obtain ⟨a1, a2, a3, F3⟩ := F2.newCells [AV.int .i64 0, .nilFn]
  have hz : AV.cells (.agg [.int .i64 0, .nilFn]) = [.int .i64 0, .nilFn] := rfl
  simp only [oS, wW, hz]
  obtain ⟨b1, b2, b3, F4⟩ := F3.newCells [AV.int .i64 0, .nilFn]
  generalize hH4 : newCells (newCells H2 [AV.int .i64 0, .nilFn]) [AV.int .i64 0, .nilFn] = H4 at *
  generalize hH3 : newCells H2 [AV.int .i64 0, .nilFn] = H3 at *
  have hc1 : AV.cells (.agg [.int .i64 2, v1]) = [.int .i64 2, v1] := rfl
  have hc2 : AV.cells (.agg [.int .i64 4, v2]) = [.int .i64 4, v2] := rfl
  obtain ⟨H5, c1, c2, c3, c4, F5⟩ := F4.stores (b2 _ _ _ a1) (n := 0) (vs := [.int .i64 2, v1]) (by simp) (by simp) (two_scalar m1.scalar)
  refine storesW sz_81 (by rw [hc1]; exact c1) ?_
  rw [setMany_all (by rfl)] at c2
  have b1' : H5.get H3.next = some (.cells [.int .i64 0, .nilFn] true []) := c3 _ _ _ (by omega) b1
  obtain ⟨H6, d1, d2, d3, d4, F6⟩ := F5.stores b1' (n := 0) (vs := [.int .i64 4, v2]) (by simp) (by simp) (two_scalar m2.scalar)
  refine storesW sz_81 (by rw [hc2]; exact d1) ?_
  rw [setMany_all (by rfl)] at d2
  have c2' : H6.get H2.next = some (.cells [.int .i64 2, v1] true []) := d3 _ _ _ (by omega) c2
  have s26 : Stays H2 H6 := fun k all pre hk => d3 _ _ _ (by have := F2.lt hk; omega) (c3 _ _ _ (by have := F2.lt hk; omega) (b2 _ _ _ (a2 _ _ _ hk)))
  refine (between_ok F6).use ?_
  rintro v3 H7 ⟨m3, s7⟩ F7 n7
  rw [build_81 m3, oS]
  obtain ⟨e1, e2, e3, F8⟩ := F7.newCells [AV.int .i64 0, .nilFn]
  generalize hH8 : newCells H7 [AV.int .i64 0, .nilFn] = H8 at *
  have hc3 : AV.cells (.agg [.int .i64 1, v3]) = [.int .i64 1, v3] := rfl
  obtain ⟨H9, f1, f2, f3, f4, F9⟩ := F8.stores e1 (n := 0) (vs := [.int .i64 1, v3]) (by simp) (by simp) (two_scalar m3.scalar)
  refine storesW sz_81 (by rw [hc3]; exact f1) ?_
  rw [setMany_all (by rfl)] at f2
  have s79 : Stays H7 H9 := fun k all pre hk => f3 _ _ _ (by have := F7.lt hk; omega) (e2 _ _ _ hk)
  have s69 : Stays H6 H9 := stays_trans s7 s79
  have s29 : Stays H2 H9 := stays_trans s26 s69
  have s09 : Stays H H9 := stays_trans s1 (stays_trans s2 s29)
  have hX : ∀ k, H9.next ≤ k → (fun k => H.next ≤ k) k := fun k hk => by simp only; omega
  have k4 : BoxAt (fun k => H.next ≤ k) H9 H2.next fIx := ⟨v1, _, s69 _ _ _ c2', (m1.keep (Keeps.of (stays_trans s2 s29)))⟩
  have k5 : BoxAt (fun k => H.next ≤ k) H9 H3.next fLeap := ⟨v2, _, s69 _ _ _ d2, (m2.keep (Keeps.of s29)).less F9 fun k _ hk => show H.next ≤ k by have : H1.next ≤ k := hk; omega⟩
  have k6 : BoxAt (fun k => H.next ≤ k) H9 H7.next fWid := ⟨v3, _, f2, (m3.keep (Keeps.of s79)).less F9 fun k _ hk => show H.next ≤ k by have : H6.next ≤ k := hk; omega⟩
  have hQ : ∀ lv H', FieldsAt (fun k => H.next ≤ k) H' lv ((lay op).getD []) → Stays H9 H' → ∃ lv', (AV.tup [lv, .bool (lay op).isSome]) = .tup [lv', .bool (lay op).isSome] ∧ FieldsAt (fun k => H.next ≤ k) H' lv' ((lay op).getD []) ∧ Stays H H' :=
    fun lv H' h s => ⟨lv, rfl, h, stays_trans s09 s⟩
  rw [eqv_5, oS, condW_bool]
  refine ⟨fun h => ?_, fun h => ?_⟩
  · have e : lay op = some [⟨1, fitLo 1, fitHi 1⟩] := by unfold lay; rw [if_pos (by simpa using h)]
    rw [e]
    simp only [Option.isSome_some, Option.getD_some]
    exact new_fits F9 hX (w := 1) (s := 1) (Q := fun v H' => ∃ lv, v = .tup [lv, .bool true] ∧ FieldsAt (fun k => H.next ≤ k) H' lv [⟨1, fitLo 1, fitHi 1⟩] ∧ Stays H H') fun lv H' h s => ⟨lv, rfl, h, stays_trans s09 s⟩
  have g1 : ¬ op = 1 := by simpa using h
  rw [eqv_5, oS, condW_bool]
  refine ⟨fun h => ?_, fun h => ?_⟩
  · have e : lay op = some [⟨4, fitLo 2, fitHi 2⟩] := by unfold lay; rw [if_neg g1, if_pos (by simpa using h)]
    rw [e]
    simp only [Option.isSome_some, Option.getD_some]
    exact new_fits F9 hX (w := 2) (s := 4) (Q := fun v H' => ∃ lv, v = .tup [lv, .bool true] ∧ FieldsAt (fun k => H.next ≤ k) H' lv [⟨4, fitLo 2, fitHi 2⟩] ∧ Stays H H') fun lv H' h s => ⟨lv, rfl, h, stays_trans s09 s⟩
  have g2 : ¬ op = 2 := by simpa using h
  rw [eqv_5, oS, condW_bool]
  refine ⟨fun h => ?_, fun h => ?_⟩
  · have e : lay op = some [⟨8, fitLo 3, fitHi 3⟩] := by unfold lay; rw [if_neg g1, if_neg g2, if_pos (by simpa using h)]
    rw [e]
    simp only [Option.isSome_some, Option.getD_some]
    exact new_fits F9 hX (w := 3) (s := 8) (Q := fun v H' => ∃ lv, v = .tup [lv, .bool true] ∧ FieldsAt (fun k => H.next ≤ k) H' lv [⟨8, fitLo 3, fitHi 3⟩] ∧ Stays H H') fun lv H' h s => ⟨lv, rfl, h, stays_trans s09 s⟩
  have g3 : ¬ op = 3 := by simpa using h
  have e : lay op = lay0 (op == 6 || op == 7 || op == 8 || op == 50 || op == 36 || op == 39 || op == 40 || op == 41 || op == 42 || op == 43 || op == 44 || op == 45) op := by unfold lay; rw [if_neg g1, if_neg g2, if_neg g3]
  rw [e] at hQ ⊢
  generalize hb : (op == 6 || op == 7 || op == 8 || op == 50 || op == 36 || op == 39 || op == 40 || op == 41 || op == 42 || op == 43 || op == 44 || op == 45) = b at hQ ⊢
  have fin : ∀ c : Bool, c = b → J40_0 E w0 (fun v H' => ∃ lv, v = .tup [lv, .bool (lay0 b op).isSome] ∧ FieldsAt (fun k => H.next ≤ k) H' lv ((lay0 b op).getD []) ∧ Stays H H') (.int .u8 op) (.ptr (.new H2.next) 0) (.ptr (.new H3.next) 0) (.ptr (.new H7.next) 0) (.int .u8 op) (.bool c) H9 := by
    rintro c rfl
    exact j0 F9 hX k4 k5 k6 hQ
  simp only [eqv_5, oS, condW_bool]
  refine ⟨fun h => fin _ (by rw [← hb]; simp [h]), fun h1 => ⟨fun h => fin _ (by rw [← hb]; simp [h]), fun h2 => ⟨fun h => fin _ (by rw [← hb]; simp [h]), fun h3 => ⟨fun h => fin _ (by rw [← hb]; simp [h]), fun h4 => ⟨fun h => fin _ (by rw [← hb]; simp [h]), fun h5 => ⟨fun h => fin _ (by rw [← hb]; simp [h]), fun h6 =>
    ⟨fun h => fin _ (by rw [← hb]; simp [h]), fun h7 => ⟨fun h => fin _ (by rw [← hb]; simp [h]), fun h8 => ⟨fun h => fin _ (by rw [← hb]; simp [h]), fun h9 => ⟨fun h => fin _ (by rw [← hb]; simp [h]), fun h10 => ⟨fun h => fin _ (by rw [← hb]; simp [h]), fun h11 => fin _ (by rw [← hb]; simp [h1, h2, h3, h4, h5, h6, h7, h8, h9, h10, h11])⟩⟩⟩⟩⟩⟩⟩⟩⟩⟩⟩
end Go.Proofs.Ytcboaonbfgjmgaa.op
