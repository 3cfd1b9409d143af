/-
  Texts Fh Vh Fi Ec, as far as they are used.
-/
import Derived.Test.YtcboaonbfgjmgaaRba
import Derived.Test.YtcboaonbfgjmgaaRows
import Derived.Test.YtcboaonbfgjmgaaRau
import Derived.KernelRfl
import Derived.Test.YtcboaonbfgjmgaaRaw
import Derived.Test.YtcboaonbfgjmgaaRam
import Derived.SizedLaws
section
open Go.Proofs Go Go.Am Go.Op
namespace Go.Proofs.Ytcboaonbfgjmgaa.d
set_option linter.unusedVariables false
set_option linter.unusedSimpArgs false
set_option maxRecDepth 100000
theorem sameIn_eq {y z : In} : sameIn y z = true ↔ y = z := by
  constructor
  · intro h
    obtain ⟨h1, h2, h3, h4⟩ := of_decide_eq_true h
    cases y; cases z; simp_all
  · rintro rfl; exact sameIn_refl _
instance : DecidableEq In := fun y z => decidable_of_iff (sameIn y z = true) sameIn_eq
/-- Arms that can be read where they stand. -/
def RdA (S : DSt) (t : D) (arms : List (Int × Int)) : Prop := lenSl t = some (.int .i64 (arms.length : Int)) ∧ ∀ (i : Nat) (y : Int × Int), arms[i]? = some y → ∃ p, idxSl 2 t (.int .i64 (i : Int)) = some p ∧ ∀ S' : DSt, S.le S' → loadAg S' 2 p = some (.agg (armR y))
/-- Instructions likewise. -/
def RdX (S : DSt) (d : D) (l : List In) : Prop := lenSl d = some (.int .i64 (l.length : Int)) ∧ ∀ (i : Nat) (y : In), l[i]? = some y → ∃ p t, idxSl 4 d (.int .i64 (i : Int)) = some p ∧ (∀ S' : DSt, S.le S' → loadAg S' 4 p = some (.agg (datC y.op y.a y.b t))) ∧ RdA S t y.arms
theorem RdA.le {S S' : DSt} {t : D} {arms : List (Int × Int)} (h : RdA S t arms) (hl : S.le S') : RdA S' t arms := ⟨h.1, fun i y e => let ⟨p, p1, p2⟩ := h.2 i y e; ⟨p, p1, fun S2 h2 => p2 S2 (DSt.le_trans hl h2)⟩⟩
theorem RdX.le {S S' : DSt} {d : D} {l : List In} (h : RdX S d l) (hl : S.le S') : RdX S' d l := ⟨h.1, fun i y e => let ⟨p, t, p1, p2, p3⟩ := h.2 i y e; ⟨p, t, p1, fun S2 h2 => p2 S2 (DSt.le_trans hl h2), p3.le hl⟩⟩
theorem rdA_lst (S : DSt) (arms : List (Int × Int)) : RdA S (armD arms) arms := ⟨armD_len _, fun i y e => ⟨_, armD_at e, fun _ _ => rfl⟩⟩
theorem insD_at {l : List In} {i : Nat} {y : In} (h : l[i]? = some y) : idxSl 4 (insD l) (.int .i64 (i : Int)) = some (.elt (inC y) 0) := idxL (by rw [List.getElem?_map, h]; rfl)
@[simp] theorem insD_len (l : List In) : lenSl (insD l) = some (.int .i64 l.length) := by simp [insD]
theorem rdX_lst (S : DSt) (l : List In) : RdX S (insD l) l := ⟨insD_len l, fun i y e => ⟨_, armD y.arms, insD_at e, fun _ _ => rfl, rdA_lst S _⟩⟩
/-- .. rows of an object. -/
theorem rdA_raw {S : DSt} {k : Nat} {arms : List (Int × Int)} {acs : List AV} (h : S k = some ⟨2, arms.map armR, acs⟩) : RdA S (.raw k 0 (arms.map armR).length (arms.map armR).length false 2) arms := by
  refine ⟨by simp, fun i y e => ?_⟩
  have hi := (List.getElem?_eq_some_iff.1 e).1
  refine ⟨_, idxR (by simpa using hi), fun S' hl => ?_⟩
  rw [Nat.zero_add, laR (hl _ _ h) (row := armR y) (by rw [List.getElem?_map, e]; rfl) ⟨by decide, by simp [armR]⟩]
  rfl
theorem rdA_nil (S : DSt) : RdA S .nilSlc [] := ⟨rfl, fun i y e => by simp at e⟩
theorem Grw.rdA {S0 S : DSt} {t : D} {arms : List (Int × Int)} (h : Grw S0 t (arms.map armR) 2 S) : RdA S t arms := by
  rcases h with ⟨rfl, e, rfl⟩ | ⟨k, acs, h, rfl, rfl⟩
  · have : arms = [] := by simpa using e
    subst this
    exact rdA_nil _
  · exact rdA_raw (DSt.set_same _ _ _)
section
variable {E : Env} {w0 : World}
theorem sameInstr_rd {x : Bool} {y z : In} (hy : y.Ok) (hz : z.Ok) {S : DSt} {t u : D} (ra : RdA S t y.arms) (rb : RdA S u z.arms) : DFn Try.prog E w0 x f_kit_SameInstr [.agg (datC y.op y.a y.b t), .agg (datC z.op z.a z.b u)] S fun d' S' => d' = .bool (sameIn y z) ∧ S' = S := by
  refine V_kit_SameInstr_ok ?_
  unfold V_kit_SameInstr
  rw [clA, oD]
  intro k a n
  rw [clA, oD]
  intro k2 a2 n2
  obtain ⟨ne2, n2'⟩ := DSt.fresh n2
  generalize hS3 : (S.set k _).set k2 _ = S3
  have h2 : Cel S3 k2 4 (datC z.op z.a z.b u) := by rw [← hS3]; exact Cel.new
  have h0 : Cel S3 k 4 (datC y.op y.a y.b t) := by rw [← hS3]; exact (Cel.new).set n2
  have hle : S.le S3 := by rw [← hS3]; exact DSt.le_set (DSt.le_new n) n2'
  have hsh := hy.short
  have hsz := hz.short
  have hx : ∀ (y : In) (t : D), (datC y.op y.a y.b t)[0]? = some (.int .u8 y.op) ∧ (datC y.op y.a y.b t)[1]? = some (.int .i64 y.a) ∧ (datC y.op y.a y.b t)[2]? = some (.int .i64 y.b) ∧ (datC y.op y.a y.b t)[3]? = some t := fun _ _ => ⟨rfl, rfl, rfl, rfl⟩
  simp only [ofP, oD, h2.ld, h0.ld, Nat.zero_add, (hx y t).1, (hx z u).1, biNe, wdB]
  have fin : ∀ b : Bool, sameIn y z = b → FinD E (fun d' S' => d' = D.bool (sameIn y z) ∧ S' = S) (.bool b) S3 := fun b h => by rw [h]; exact FinD.less hle FinD.pure
  have t1 : (true == false) = false := rfl
  have t2 : (false == false) = true := rfl
  by_cases c1 : y.op = z.op
  · rw [show (y.op != z.op) = false by simp [c1]]
    simp only [t2, vdT, oD, h2.ld, h0.ld, (hx y t).2.1, (hx z u).2.1, biNe, pdB, Bool.false_eq_true, if_false, wdB]
    by_cases c2 : y.a = z.a
    · rw [show (y.a != z.a) = false by simp [c2]]
      simp only [t2, vdT, oD, h2.ld, h0.ld, (hx y t).2.2.1, (hx z u).2.2.1, biNe, pdB, Bool.false_eq_true, if_false, wdB]
      by_cases c3 : y.b = z.b
      · rw [show (y.b != z.b) = false by simp [c3]]
        simp only [t2, vdT, oD, h2.ld, h0.ld, (hx y t).2.2.2, (hx z u).2.2.2, ra.1, rb.1, biNe, pdB, Bool.false_eq_true, if_false, wdB]
        rw [bneD, cdI]
        refine ⟨fun hne => fin false (decide_eq_false fun h => hne (by rw [h.2.2.2])), fun he => ?_⟩
        have he : y.arms.length = z.arms.length := by omega
        refine loop_kit_SameInstr_0 (I := fun n x2 x3 x5 S' => S3 = S' ∧ x2 = .ptr k 0 ∧ x3 = .ptr k2 0 ∧ ∃ i : Nat, x5 = .int .i64 (i : Int) ∧ i + n = y.arms.length ∧ y.arms.take i = z.arms.take i) ?_ (n := y.arms.length) ⟨rfl, rfl, rfl, 0, rfl, by omega, rfl⟩
        rintro n _ _ _ _ ⟨rfl, rfl, rfl, i, rfl, hi, ht⟩
        unfold B_kit_SameInstr_0
        simp only [ofP, oD, h2.ld, h0.ld, Nat.zero_add, (hx y t).2.2.2, (hx z u).2.2.2, ra.1, biLt]
        rw [cdI]
        refine ⟨fun hlt => ?_, fun hge => ?_⟩
        · have hlt : i < y.arms.length := by omega
          have ea : y.arms[i]? = some y.arms[i] := List.getElem?_eq_getElem hlt
          have eb : z.arms[i]? = some z.arms[i] := List.getElem?_eq_getElem (by omega)
          obtain ⟨p, p1, p2⟩ := ra.2 i _ ea
          obtain ⟨q, q1, q2⟩ := rb.2 i _ eb
          simp only [p1, q1, oD, p2 _ hle, q2 _ hle, eqArm, eqN]
          refine ⟨by trivial, by trivial, by trivial, by trivial, ?_⟩
          rw [← decide_not, cdI]
          refine ⟨fun hne => fin false (decide_eq_false fun h => hne (by simp only [h.2.2.2])), fun he => ?_⟩
          rw [biAdd, oD, wrap_i64 (by omega) (by omega)]
          refine ⟨n - 1, by omega, by trivial, by trivial, by trivial, i + 1, rfl, by omega, ?_⟩
          rw [List.take_add_one, List.take_add_one, ht, ea, eb, Classical.not_not.1 he]
        · rw [List.take_of_length_le (by omega), List.take_of_length_le (by omega)] at ht
          exact fin true (decide_eq_true ⟨c1, c2, c3, ht⟩)
      · rw [show (y.b != z.b) = true by simp [c3]]
        simp only [t1, vdF, oD, pdB, if_true, wdB, cdT]
        exact fin false (decide_eq_false fun h => c3 h.2.2.1)
    · rw [show (y.a != z.a) = true by simp [c2]]
      simp only [t1, vdF, oD, pdB, if_true, wdB, cdT]
      exact fin false (decide_eq_false fun h => c2 h.2.1)
  · rw [show (y.op != z.op) = true by simp [c1]]
    simp only [t1, vdF, oD, pdB, if_true, wdB, cdT]
    exact fin false (decide_eq_false fun h => c1 h.1)
theorem sameInstrs_rd {x : Bool} {a b : List In} (ha : ∀ y ∈ a, y.Ok) (hb : ∀ y ∈ b, y.Ok) (la : a.length < 2 ^ 60) (lb : b.length < 2 ^ 60) {S : DSt} {d e : D} (ra : RdX S d a) (rb : RdX S e b) : DFn Try.prog E w0 x f_kit_SameInstrs [d, e] S fun d' S' => d' = .bool (decide (a = b)) ∧ S' = S := by
  refine V_kit_SameInstrs_ok ?_
  unfold V_kit_SameInstrs
  simp only [ra.1, rb.1, oD, biNe]
  rw [bneD, cdI]
  refine ⟨fun h => ?_, fun h => ?_⟩
  · rw [decide_eq_false (fun e => h (by rw [e]))]
    exact FinD.pure
  have h : a.length = b.length := by omega
  refine loop_kit_SameInstrs_0 (I := fun n x0 x1 x5 S' => S = S' ∧ x0 = d ∧ x1 = e ∧ ∃ i : Nat, x5 = .int .i64 (i : Int) ∧ i + n = a.length ∧ a.take i = b.take i) ?_ (n := a.length) ⟨rfl, rfl, rfl, 0, rfl, by omega, rfl⟩
  rintro n _ _ _ _ ⟨rfl, rfl, rfl, i, rfl, hi, ht⟩
  unfold B_kit_SameInstrs_0
  simp only [ra.1, oD, biLt]
  rw [cdI]
  refine ⟨fun hlt => ?_, fun hge => ?_⟩
  · have hlt : i < a.length := by omega
    have ea : a[i]? = some a[i] := List.getElem?_eq_getElem hlt
    have eb : b[i]? = some b[i] := List.getElem?_eq_getElem (by omega)
    obtain ⟨p, t, p1, p2, p3⟩ := ra.2 i _ ea
    obtain ⟨q, u, q1, q2, q3⟩ := rb.2 i _ eb
    rw [p1, oD, p2 _ (DSt.le_refl _), oD]
    refine ⟨by trivial, ?_⟩
    rw [q1, oD, q2 _ (DSt.le_refl _), oD]
    refine ⟨by trivial, DFn.toX (sameInstr_rd (ha _ (List.getElem_mem _)) (hb _ (List.getElem_mem _)) p3 q3) ?_⟩
    rintro v S' ⟨rfl, rfl⟩
    refine ⟨by trivial, ?_⟩
    rw [unN, oD, cdB]
    refine ⟨fun hne => ?_, fun he => ?_⟩
    · have hne : sameIn a[i] b[i] = false := by simpa using hne
      rw [decide_eq_false (fun e => by simp only [e] at hne; rw [sameIn_refl] at hne; cases hne)]
      exact FinD.pure
    · have he : sameIn a[i] b[i] = true := by simpa using he
      rw [biAdd, oD, wrap_i64 (by omega) (by omega)]
      refine ⟨n - 1, by omega, by trivial, by trivial, by trivial, i + 1, rfl, by omega, ?_⟩
      rw [List.take_add_one, List.take_add_one, ht, ea, eb, sameIn_eq.1 he]
  · rw [List.take_of_length_le (by omega), List.take_of_length_le (by omega)] at ht
    rw [decide_eq_true ht]
    exact FinD.pure
end
/-- Arms that are written over. -/
def WArm (S T : DSt) (kt ku : Nat) (a : D) : Prop := a = .nilSlc ∨ ∃ k m rs acs, a = .raw k 0 m m false 2 ∧ S k = none ∧ k ≠ kt ∧ k ≠ ku ∧ T k = some ⟨2, rs, acs⟩ ∧ rs.length = m ∧ (∀ r ∈ rs, r.length = 2) ∧ m < 2 ^ 60
theorem WArm.set {S T : DSt} {kt ku k : Nat} {a : D} {rs rs' : List (List D)} {acs acs' : List AV} (h : WArm S T kt ku a) (hk : T k = some ⟨2, rs, acs⟩) (hl : rs'.length = rs.length) (hr : ∀ r ∈ rs', r.length = 2) : WArm S (T.set k ⟨2, rs', acs'⟩) kt ku a := by
  rcases h with h | ⟨j, m, qs, bcs, h1, h2, h3, h4, h5, h6, h7, h8⟩
  · exact .inl h
  · right
    by_cases e : j = k
    · subst e
      rw [hk] at h5
      cases h5
      exact ⟨j, m, rs', acs', h1, h2, h3, h4, DSt.set_same _ _ _, by omega, hr, h8⟩
    · exact ⟨j, m, qs, bcs, h1, h2, h3, h4, by rw [DSt.set_ne _ _ _ e]; exact h5, h6, h7, h8⟩
theorem WArm.ne {S T : DSt} {kt ku k : Nat} {a : D} {o : DObj} (h : WArm S T kt ku a) (hk : k = kt ∨ k = ku) : WArm S (T.set k o) kt ku a := by
  rcases h with h | ⟨j, m, qs, bcs, h1, h2, h3, h4, h5, h6, h7, h8⟩
  · exact .inl h
  · exact .inr ⟨j, m, qs, bcs, h1, h2, h3, h4, by rw [DSt.set_ne]; exact h5; rcases hk with rfl | rfl <;> assumption, h6, h7, h8⟩
/-- Rows that hold arms, from a place on. -/
def WRows (S T : DSt) (kt ku i : Nat) (rows : List (List D)) : Prop := (∀ r ∈ rows, r.length = 4) ∧ ∀ (j : Nat) (r : List D), i ≤ j → rows[j]? = some r → ∃ p q s a, r = [p, q, s, a] ∧ WArm S T kt ku a
structure WrAt (S : DSt) (N i kt ku : Nat) (T : DSt) : Prop where
  le : S.le T
  nt : S kt = none
  nu : S ku = none
  ne : kt ≠ ku
  rows : ∃ rows acs, T kt = some ⟨4, rows, acs⟩ ∧ rows.length = N ∧ WRows S T kt ku i rows
  pls : ∃ rs acs, T ku = some ⟨1, rs, acs⟩ ∧ rs.length = N ∧ ∀ r ∈ rs, r.length = 1
theorem set_len {α : Type} {n : Nat} {rows : List (List α)} {i : Nat} {row : List α} (h : ∀ r ∈ rows, r.length = n) (hr : row.length = n) : ∀ r ∈ rows.set i row, r.length = n := fun r hm => by
  rcases List.mem_or_eq_of_mem_set hm with hm | rfl
  · exact h r hm
  · exact hr
end Go.Proofs.Ytcboaonbfgjmgaa.d
end

section
open Go.Proofs Go Go.Am
namespace Go.Proofs.Ytcboaonbfgjmgaa.d
set_option linter.unusedVariables false
set_option maxRecDepth 100000
/- trammel/trammellaw12.OpsReads -/
def lo_law12_OpsReads : List (Nat × List Nat) := [(22, [5, 12, 13, 15, 16, 18]), (28, [5, 12, 13, 15, 16, 18, 19])]
def cu_law12_OpsReads : List (Nat × List Nat) := []
noncomputable def L_law12_OpsReads_1 : Code := (codeAt [1, 1, 1, 1, 1, 1, 1, 1, 0, 1, 0, 0, 1, 0, 0, 0, 1, 0, 0] (Try.f7.body.getD .skip))
def K_law12_OpsReads_1 (E : Env) (w0 : World) (x : Bool) (N0 : D → D → D → D → D → D → DSt → Prop) (Q : D → DSt → Prop) : AExit → List D → DSt → Prop :=
  (blockD 2 (seqD Try.prog E w0 x lo_law12_OpsReads cu_law12_OpsReads (codeAt [1, 1, 1, 1, 1, 1, 1, 1, 0, 1, 0, 0, 1, 0, 0, 1] (Try.f7.body.getD .skip)) (blockD 1 (seqD Try.prog E w0 x lo_law12_OpsReads cu_law12_OpsReads (codeAt [1, 1, 1, 1, 1, 1, 1, 1, 0, 1, 0, 0, 1, 1] (Try.f7.body.getD .skip)) (loopKD (fun T S => N0 (T.getD 5 undefD) (T.getD 12 undefD) (T.getD 13 undefD) (T.getD 15 undefD) (T.getD 16 undefD) (T.getD 18 undefD) S) (blockD 0 (seqD Try.prog E w0 x lo_law12_OpsReads cu_law12_OpsReads (codeAt [1, 1, 1, 1, 1, 1, 1, 1, 1] (Try.f7.body.getD .skip)) (retD Try.prog Try.f7 Q))))))))
def B_law12_OpsReads_1 (E : Env) (w0 : World) (x : Bool) (N0 : D → D → D → D → D → D → DSt → Prop) (N1 : D → D → D → D → D → D → D → DSt → Prop) (Q : D → DSt → Prop) (x5 x12 x13 x15 x16 x18 x19 : D) (S : DSt) : Prop :=
  optW (idxSl 4 x15 x18) fun v71 =>
  optW (offD 3 v71) fun v72 =>
  optW (loadSc S v72) fun v73 =>
  optW (lenSl v73) fun v74 =>
  optW (binI .lss x19 v74) fun v75 =>
  condD v75
  (optW (idxSl 4 x15 x18) fun v76 =>
  optW (offD 3 v76) fun v77 =>
  optW (loadSc S v77) fun v78 =>
  optW (aggD (fillD [(.int .i64 0), (.int .i64 0)] [(0, 1, (.int .i64 (-9)))])) fun v79 =>
  optW (idxSl 2 v78 x19) fun v80 =>
  storeD S 2 v80 v79 fun v81 S82 =>
  optW (binI .add x19 (.int .i64 1)) fun v83 =>
  N1 x5 x12 x13 x15 x16 x18 v83 S82)
  (optW (aggD (fillD [(.int .u8 0), (.int .i64 0), (.int .i64 0), .nilSlc] [(0, 1, (.int .u8 99))])) fun v84 =>
  optW (idxSl 4 x15 x18) fun v85 =>
  storeD S 4 v85 v84 fun v86 S87 =>
  optW (idxSl 1 x16 x18) fun v88 =>
  storeD S87 1 v88 (.int .i64 (-1)) fun v89 S90 =>
  optW (binI .add x18 (.int .i64 1)) fun v91 =>
  N0 x5 x12 x13 x15 x16 v91 S90)
theorem B_law12_OpsReads_1_ok {E : Env} {w0 : World} {x : Bool} {N0 : D → D → D → D → D → D → DSt → Prop} {N1 : D → D → D → D → D → D → D → DSt → Prop} {Q : D → DSt → Prop} {x5 x12 x13 x15 x16 x18 x19 : D} {S : DSt} (h : B_law12_OpsReads_1 E w0 x N0 N1 Q x5 x12 x13 x15 x16 x18 x19 S) :
    CodeD Try.prog E w0 x L_law12_OpsReads_1 (mkRow 140 [5, 12, 13, 15, 16, 18, 19] [x5, x12, x13, x15, x16, x18, x19]) S (loopKD (fun T S => N1 (T.getD 5 undefD) (T.getD 12 undefD) (T.getD 13 undefD) (T.getD 15 undefD) (T.getD 16 undefD) (T.getD 18 undefD) (T.getD 19 undefD) S) (K_law12_OpsReads_1 E w0 x N0 Q)) := codeD_of_vc lo_law12_OpsReads cu_law12_OpsReads mixed (by kernel_rfl) h
theorem loop_law12_OpsReads_1 {E : Env} {w0 : World} {x : Bool} {N0 : D → D → D → D → D → D → DSt → Prop} {Q : D → DSt → Prop} (I : Nat → D → D → D → D → D → D → D → DSt → Prop)
    (step : ∀ n x5 x12 x13 x15 x16 x18 x19 S, I n x5 x12 x13 x15 x16 x18 x19 S → B_law12_OpsReads_1 E w0 x N0 (fun x5 x12 x13 x15 x16 x18 x19 S => ∃ m, m < n ∧ I m x5 x12 x13 x15 x16 x18 x19 S) Q x5 x12 x13 x15 x16 x18 x19 S)
    {n : Nat} {x5 x12 x13 x15 x16 x18 x19 : D} {S : DSt} (h : I n x5 x12 x13 x15 x16 x18 x19 S) : CodeD Try.prog E w0 x (.loop L_law12_OpsReads_1) (mkRow 140 [5, 12, 13, 15, 16, 18, 19] [x5, x12, x13, x15, x16, x18, x19]) S (K_law12_OpsReads_1 E w0 x N0 Q) :=
  codeD_loop (k := 140) (n := n) (I := fun n T S => I n (T.getD 5 undefD) (T.getD 12 undefD) (T.getD 13 undefD) (T.getD 15 undefD) (T.getD 16 undefD) (T.getD 18 undefD) (T.getD 19 undefD) S) (fun n T S hl hI => codeD_row [5, 12, 13, 15, 16, 18, 19] hl (CodeD.mono (B_law12_OpsReads_1_ok (step n _ _ _ _ _ _ _ S hI)) fun ex T' S' _ hq => by cases ex <;> exact hq)) (mkRow_length ..) (Eq.mp (by kernel_rfl) h)
noncomputable def L_law12_OpsReads_0 : Code := (codeAt [1, 1, 1, 1, 1, 1, 1, 1, 0, 1, 0, 0] (Try.f7.body.getD .skip))
def K_law12_OpsReads_0 (E : Env) (w0 : World) (x : Bool) (Q : D → DSt → Prop) : AExit → List D → DSt → Prop :=
  (blockD 0 (seqD Try.prog E w0 x lo_law12_OpsReads cu_law12_OpsReads (codeAt [1, 1, 1, 1, 1, 1, 1, 1, 1] (Try.f7.body.getD .skip)) (retD Try.prog Try.f7 Q)))
def B_law12_OpsReads_0 (E : Env) (w0 : World) (x : Bool) (N0 : D → D → D → D → D → D → DSt → Prop) (Q : D → DSt → Prop) (x5 x12 x13 x15 x16 x18 : D) (S : DSt) : Prop :=
  optW (lenSl x15) fun v69 =>
  optW (binI .lss x18 v69) fun v70 =>
  condD v70
  (CodeD Try.prog E w0 x (.loop L_law12_OpsReads_1) (mkRow 140 [5, 12, 13, 15, 16, 18, 19] [x5, x12, x13, x15, x16, x18, (.int .i64 0)]) S (K_law12_OpsReads_1 E w0 x N0 Q))
  (DFn Try.prog E w0 x f_ops_All [x5] S fun v92 S93 =>
  optW (extractD v92 0) fun v94 =>
  optW (extractD v92 1) fun v95 =>
  optW (extractD v92 2) fun v96 =>
  DFn Try.prog E w0 x f_kit_SameInstrs [v94, x12] S93 fun v97 S98 =>
  optW (valGD (wantsD v97 true) (some v95)) fun v99 =>
  optW (valGD (wantsD v97 true) (some x13)) fun v100 =>
  guardD (wantsD v97 true) (fun K => DFn Try.prog E w0 x f_kit_SameInts [v99, v100] S98 K) S98 fun v101 S102 =>
  optW (pickD v97 v101 (.bool false)) fun v103 =>
  guardD (wantsD v103 true) (fun K => DFn Try.prog E w0 x f_law12_works [] S102 K) S102 fun v104 S105 =>
  optW (pickD v103 v104 (.bool false)) fun v106 =>
  Q v106 S105)
theorem B_law12_OpsReads_0_ok {E : Env} {w0 : World} {x : Bool} {N0 : D → D → D → D → D → D → DSt → Prop} {Q : D → DSt → Prop} {x5 x12 x13 x15 x16 x18 : D} {S : DSt} (h : B_law12_OpsReads_0 E w0 x N0 Q x5 x12 x13 x15 x16 x18 S) :
    CodeD Try.prog E w0 x L_law12_OpsReads_0 (mkRow 140 [5, 12, 13, 15, 16, 18] [x5, x12, x13, x15, x16, x18]) S (loopKD (fun T S => N0 (T.getD 5 undefD) (T.getD 12 undefD) (T.getD 13 undefD) (T.getD 15 undefD) (T.getD 16 undefD) (T.getD 18 undefD) S) (K_law12_OpsReads_0 E w0 x Q)) := codeD_of_vc lo_law12_OpsReads cu_law12_OpsReads mixed (by kernel_rfl) h
theorem loop_law12_OpsReads_0 {E : Env} {w0 : World} {x : Bool} {Q : D → DSt → Prop} (I : Nat → D → D → D → D → D → D → DSt → Prop)
    (step : ∀ n x5 x12 x13 x15 x16 x18 S, I n x5 x12 x13 x15 x16 x18 S → B_law12_OpsReads_0 E w0 x (fun x5 x12 x13 x15 x16 x18 S => ∃ m, m < n ∧ I m x5 x12 x13 x15 x16 x18 S) Q x5 x12 x13 x15 x16 x18 S)
    {n : Nat} {x5 x12 x13 x15 x16 x18 : D} {S : DSt} (h : I n x5 x12 x13 x15 x16 x18 S) : CodeD Try.prog E w0 x (.loop L_law12_OpsReads_0) (mkRow 140 [5, 12, 13, 15, 16, 18] [x5, x12, x13, x15, x16, x18]) S (K_law12_OpsReads_0 E w0 x Q) :=
  codeD_loop (k := 140) (n := n) (I := fun n T S => I n (T.getD 5 undefD) (T.getD 12 undefD) (T.getD 13 undefD) (T.getD 15 undefD) (T.getD 16 undefD) (T.getD 18 undefD) S) (fun n T S hl hI => codeD_row [5, 12, 13, 15, 16, 18] hl (CodeD.mono (B_law12_OpsReads_0_ok (step n _ _ _ _ _ _ S hI)) fun ex T' S' _ hq => by cases ex <;> exact hq)) (mkRow_length ..) (Eq.mp (by kernel_rfl) h)
def V_law12_OpsReads (E : Env) (w0 : World) (x : Bool) (Q : D → DSt → Prop) (a0 a1 : D) (S : DSt) : Prop :=
  optW (lenSl a0) fun v0 =>
  optW (binI .gtr v0 (.int .i64 65536)) fun v1 =>
  condD v1
  (DFn Try.prog E w0 x f_law12_works [] S fun v2 S3 =>
  Q v2 S3)
  (DFn Try.prog E w0 x f_kit_LentCode [a0] S fun v4 S5 =>
  DFn Try.prog E w0 x f_ref12_Decode [a0, a1] S5 fun v6 S7 =>
  optW (extractD v6 0) fun v8 =>
  optW (extractD v6 1) fun v9 =>
  optW (extractD v6 2) fun v10 =>
  allocD S7 [(.int .u8 0), (.int .i64 0), (.int .i64 0), .nilSlc] fun v11 S12 =>
  storeD S12 4 v11 v8 fun v13 S14 =>
  DFn Try.prog E w0 x f_ops_Decode [v4, a1] S14 fun v15 S16 =>
  optW (extractD v15 0) fun v17 =>
  optW (extractD v15 1) fun v18 =>
  optW (extractD v15 2) fun v19 =>
  allocD S16 [(.int .u8 0), (.int .i64 0), (.int .i64 0), .nilSlc] fun v20 S21 =>
  storeD S21 4 v20 v17 fun v22 S23 =>
  DFn Try.prog E w0 x f_ref12_All [a0] S23 fun v24 S25 =>
  optW (extractD v24 0) fun v26 =>
  optW (extractD v24 1) fun v27 =>
  optW (extractD v24 2) fun v28 =>
  DFn Try.prog E w0 x f_ops_All [v4] S25 fun v29 S30 =>
  optW (extractD v29 0) fun v31 =>
  optW (extractD v29 1) fun v32 =>
  optW (extractD v29 2) fun v33 =>
  optW (loadAg S30 4 v20) fun v34 =>
  optW (loadAg S30 4 v11) fun v35 =>
  DFn Try.prog E w0 x f_kit_SameInstr [v34, v35] S30 fun v36 S37 =>
  optW (unD .not v36) fun v38 =>
  optW (valGD (wantsD v38 false) (some v18)) fun v39 =>
  optW (valGD (wantsD v38 false) (some v9)) fun v40 =>
  optW (valGD (wantsD v38 false) (binI .neq v39 v40)) fun v41 =>
  optW (pickD v38 (.bool true) v41) fun v42 =>
  optW (valGD (wantsD v42 false) (some v19)) fun v43 =>
  optW (valGD (wantsD v42 false) (some v10)) fun v44 =>
  optW (valGD (wantsD v42 false) (binI .neq v43 v44)) fun v45 =>
  optW (pickD v42 (.bool true) v45) fun v46 =>
  optW (valGD (wantsD v46 false) (some v31)) fun v47 =>
  optW (valGD (wantsD v46 false) (some v26)) fun v48 =>
  guardD (wantsD v46 false) (fun K => DFn Try.prog E w0 x f_kit_SameInstrs [v47, v48] S37 K) S37 fun v49 S50 =>
  optW (valGD (wantsD v46 false) (unD .not v49)) fun v51 =>
  optW (pickD v46 (.bool true) v51) fun v52 =>
  optW (valGD (wantsD v52 false) (some v32)) fun v53 =>
  optW (valGD (wantsD v52 false) (some v27)) fun v54 =>
  guardD (wantsD v52 false) (fun K => DFn Try.prog E w0 x f_kit_SameInts [v53, v54] S50 K) S50 fun v55 S56 =>
  optW (valGD (wantsD v52 false) (unD .not v55)) fun v57 =>
  optW (pickD v52 (.bool true) v57) fun v58 =>
  optW (valGD (wantsD v58 false) (some v33)) fun v59 =>
  optW (valGD (wantsD v58 false) (some v28)) fun v60 =>
  optW (valGD (wantsD v58 false) (binI .neq v59 v60)) fun v61 =>
  optW (pickD v58 (.bool true) v61) fun v62 =>
  optW (valGD (wantsD v62 false) (some v4)) fun v63 =>
  optW (valGD (wantsD v62 false) (some a0)) fun v64 =>
  guardD (wantsD v62 false) (fun K => DFn Try.prog E w0 x f_kit_KeptCode [v63, v64] S56 K) S56 fun v65 S66 =>
  optW (valGD (wantsD v62 false) (unD .not v65)) fun v67 =>
  optW (pickD v62 (.bool true) v67) fun v68 =>
  condD v68
  (Q (.bool false) S66)
  (CodeD Try.prog E w0 x (.loop L_law12_OpsReads_0) (mkRow 140 [5, 12, 13, 15, 16, 18] [v4, v26, v27, v31, v32, (.int .i64 0)]) S66 (K_law12_OpsReads_0 E w0 x Q)))
theorem V_law12_OpsReads_ok {E : Env} {w0 : World} {x : Bool} {Q : D → DSt → Prop} {a0 a1 : D} {S : DSt} (h : V_law12_OpsReads E w0 x (FinD E Q) a0 a1 S) : DFn Try.prog E w0 x f_law12_OpsReads [a0, a1] S Q :=
  fnD_of_vc lo_law12_OpsReads cu_law12_OpsReads (fn := Try.f7) (c := Try.f7.body.getD .skip) mixed Try.func7 (by kernel_rfl) (by kernel_rfl) h

/- trammel/trammellaw12.bytes -/
end Go.Proofs.Ytcboaonbfgjmgaa.d
end

section
open Go.Proofs Go Go.Am Go.Op
namespace Go.Proofs.Ytcboaonbfgjmgaa.d
set_option linter.unusedVariables false
set_option linter.unusedSimpArgs false
set_option maxRecDepth 100000
theorem allT_len {bs : List Int} (hb : ∀ b ∈ bs, Byte b) : ∀ (n p : Nat) (l : List (Dat × Nat)), allT bs n p = .ok l → p ≤ bs.length → l.length + p ≤ bs.length ∧ ∀ x ∈ l, (inOf x.1).Ok
  | 0, p, l, h, hp => by cases h; exact ⟨by simpa using hp, by simp⟩
  | n + 1, p, l, h, hp => by
    by_cases hlt : p < bs.length
    · rw [allT_step hlt] at h
      split at h
      · rename_i he
        obtain ⟨h1, h2, h3⟩ := dec_next hb he
        split at h
        · rename_i l' e
          cases h
          obtain ⟨g1, g2⟩ := allT_len hb n _ l' e h3
          refine ⟨by simp only [List.length_cons]; omega, fun x hx => ?_⟩
          rcases List.mem_cons.1 hx with rfl | hx
          · exact h1
          · exact g2 x hx
        · cases h
      · cases h
    · have e0 : allT bs (n + 1) p = .ok [] := by rw [allT, if_pos (by omega)]
      rw [e0] at h
      cases h
      exact ⟨by simpa using hp, by simp⟩
section
variable {E : Env} {w0 : World}
/-- The lists that All answers: of the instructions, of the places. -/
def allL (r : Except Int (List (Dat × Nat))) : List In × List Int × Int := match r with
  | .ok l => (insOf l, plsOf l, 0)
  | .error e => ([], [], e)
theorem allV_is (r : Except Int (List (Dat × Nat))) : allV r = .tup [insD (allL r).1, iD (allL r).2.1, .int .i64 (allL r).2.2] := by cases r <;> rfl
theorem allL_ok {bs : List Int} (hb : ∀ b ∈ bs, Byte b) : (∀ y ∈ (allL (allS bs)).1, y.Ok) ∧ (allL (allS bs)).1.length ≤ bs.length ∧ (allL (allS bs)).2.1.length ≤ bs.length := by
  cases h : allS bs with
  | error e => exact ⟨by simp [allL], by simp [allL], by simp [allL]⟩
  | ok l =>
    obtain ⟨h1, h2⟩ := allT_len hb _ 0 l h (Nat.zero_le _)
    refine ⟨fun y hy => ?_, by simp [allL, insOf]; omega, by simp [allL, plsOf]; omega⟩
    obtain ⟨x, hx, rfl⟩ := List.mem_map.1 hy
    exact h2 x hx
/-- Behind the lists that were written over. -/
theorem reads_end {bs : List Int} (hb : ∀ b ∈ bs, Byte b) (hl : bs.length < 2 ^ 30) {T : DSt} {l : List In} {p : List Int} (e1 : l = (allL (allS bs)).1) (e2 : p = (allL (allS bs)).2.1) :
    (DFn Try.prog E w0 false f_ops_All [bX bs] T fun v92 S93 => optW (extractD v92 0) fun v94 => optW (extractD v92 1) fun v95 => optW (extractD v92 2) fun v96 => DFn Try.prog E w0 false f_kit_SameInstrs [v94, insD l] S93 fun v97 S98 => optW (valGD (wantsD v97 true) (some v95)) fun v99 => optW (valGD (wantsD v97 true) (some (iD p))) fun v100 =>
      guardD (wantsD v97 true) (fun K => DFn Try.prog E w0 false f_kit_SameInts [v99, v100] S98 K) S98 fun v101 S102 => optW (pickD v97 v101 (.bool false)) fun v103 => guardD (wantsD v103 true) (fun K => DFn Try.prog E w0 false f_law12_works [] S102 K) S102 fun v104 S105 => optW (pickD v103 v104 (.bool false)) fun v106 => FinD E (fun v _ => v = .bool true) v106 S105) := by
  subst e1 e2
  obtain ⟨h1, h2, h3⟩ := allL_ok hb
  refine DF.weak (es := [bD bs]) ⟨bX_wk bs, trivial⟩ ((ops_All_ok hb hl).use ?_)
  rw [allV_is]
  simp only [exD, List.getElem?_cons_zero, List.getElem?_cons_succ, oD]
  refine (sameInstrs_rd h1 h1 (by omega) (by omega) (rdX_lst T _) (rdX_lst T _)).use ?_
  rintro v S' ⟨rfl, rfl⟩
  simp only [decide_true, wdB, vdT, gdT, oD, show ((true == true) = true) from rfl]
  refine (sameInts_rd (by omega) (by omega) (rdI_lst _ _) (rdI_lst _ _)).use ?_
  rintro v S' ⟨rfl, rfl⟩
  simp only [decide_true, wdB, vdT, gdT, oD, pdB, if_true, show ((true == true) = true) from rfl]
  refine works_ok.use ?_
  exact FinD.here rfl
/-- The lists are written over. -/
theorem reads_loop {bs : List Int} (hb : ∀ b ∈ bs, Byte b) (hl : bs.length < 2 ^ 30) {S T : DSt} {N kt ku : Nat} {tl tp : D} {l : List In} {p : List Int} (e1 : l = (allL (allS bs)).1) (e2 : p = (allL (allS bs)).2.1) (hN : N < 2 ^ 60)
    (h : (N = 0 ∧ lenSl tl = some (.int .i64 0) ∧ S.le T) ∨ (tl = .raw kt 0 N N false 4 ∧ tp = .raw ku 0 N N false 1 ∧ WrAt S N 0 kt ku T)) :
    CodeD Try.prog E w0 false (.loop L_law12_OpsReads_0) (mkRow 140 [5, 12, 13, 15, 16, 18] [bX bs, insD l, iD p, tl, tp, (.int .i64 0)]) T (K_law12_OpsReads_0 E w0 false (FinD E fun v _ => v = .bool true)) := by
  refine loop_law12_OpsReads_0 (I := fun n x5 x12 x13 x15 x16 x18 T => x5 = bX bs ∧ x12 = insD l ∧ x13 = iD p ∧ tl = x15 ∧ tp = x16 ∧ ∃ i : Nat, x18 = .int .i64 (i : Int) ∧ i + n = N ∧ ((N = 0 ∧ lenSl tl = some (.int .i64 0) ∧ S.le T) ∨ (tl = .raw kt 0 N N false 4 ∧ tp = .raw ku 0 N N false 1 ∧ WrAt S N i kt ku T))) ?_ (n := N)
    ⟨rfl, rfl, rfl, rfl, rfl, 0, rfl, by omega, h⟩
  rintro n _ _ _ _ _ _ T ⟨rfl, rfl, rfl, rfl, rfl, i, rfl, hi, hc⟩
  unfold B_law12_OpsReads_0
  have hlen : lenSl tl = some (.int .i64 (N : Int)) := by
    rcases hc with ⟨rfl, h, _⟩ | ⟨rfl, _⟩
    · exact h
    · rfl
  rw [hlen, oD, biLt, oD, cdI]
  refine ⟨fun hlt => ?_, fun hge => reads_end hb hl e1 e2⟩
  have hlt : i < N := by omega
  obtain ⟨rfl, rfl, hw⟩ := hc.resolve_left fun h => by omega
  obtain ⟨rows, acs, hT, hrl, hr4, hrows⟩ := hw.rows
  obtain ⟨r, hr⟩ : ∃ r, rows[i]? = some r := ⟨_, List.getElem?_eq_getElem (by omega)⟩
  obtain ⟨q0, q1, q2, a, rfl, ha⟩ := hrows i r (Nat.le_refl _) hr
  obtain ⟨m, hm, hm60⟩ : ∃ m : Nat, lenSl a = some (.int .i64 (m : Int)) ∧ m < 2 ^ 60 := by
    rcases ha with rfl | ⟨k, m, rs, acs, rfl, _, _, _, _, _, _, h⟩
    · exact ⟨0, rfl, by decide⟩
    · exact ⟨m, rfl, h⟩
  refine loop_law12_OpsReads_1 (I := fun c x5 x12 x13 x15 x16 x18 x19 T => x5 = bX bs ∧ x12 = insD l ∧ x13 = iD p ∧ x15 = .raw kt 0 N N false 4 ∧ x16 = .raw ku 0 N N false 1 ∧ x18 = .int .i64 (i : Int) ∧ ∃ j : Nat, x19 = .int .i64 (j : Int) ∧ j + c = m ∧ WrAt S N i kt ku T ∧ T kt = some ⟨4, rows, acs⟩) ?_ (n := m)
    ⟨rfl, rfl, rfl, rfl, rfl, rfl, 0, rfl, by omega, hw, hT⟩
  rintro c _ _ _ _ _ _ _ T2 ⟨rfl, rfl, rfl, rfl, rfl, rfl, j, rfl, hj, hw2, hT2⟩
  unfold B_law12_OpsReads_1
  have hrow : ∀ f, loadSc T2 (.rel kt i f 4) = [q0, q1, q2, a][f]? := fun f => ldR hT2 hr
  rw [idxR hlt, oD, ofR, oD, Nat.zero_add, hrow, show [q0, q1, q2, a][0 + 3]? = some a from rfl, oD, hm, oD, biLt, oD, cdI]
  obtain ⟨rows', acs', hT2', hrl', hr4', hrows'⟩ := hw2.rows
  rw [hT2] at hT2'
  cases hT2'
  obtain ⟨_, _, _, a', ea, ha'⟩ := hrows' i _ (Nat.le_refl _) hr
  cases ea
  refine ⟨fun hjl => ?_, fun hjg => ?_⟩
  · have hjl : j < m := by omega
    rcases ha' with rfl | ⟨k, m', rs, bcs, rfl, s1, s2, s3, s4, s5, s6, s7⟩
    · have : (0 : Int) = m := by simpa using hm
      omega
    have hmm : m' = m := by
      have : (m' : Int) = m := by
        have := hm
        simp only [lnR, Option.some.injEq, D.int.injEq, true_and] at this
        exact this
      omega
    subst hmm
    rw [oD, ofR, oD, hrow, show [q0, q1, q2, D.raw k 0 m' m' false 2][0 + 3]? = some (D.raw k 0 m' m' false 2) from rfl, oD, show aggD (fillD [(D.int .i64 0), (.int .i64 0)] [(0, 1, (.int .i64 (-9)))]) = some (.agg (armR (-9, 0))) from rfl, oD, idxR hjl, oD, Nat.zero_add]
    obtain ⟨row, hrow2⟩ : ∃ row, rs[j]? = some row := ⟨_, List.getElem?_eq_getElem (by omega)⟩
    have hrl2 := s6 row (List.mem_of_getElem? hrow2)
    refine stR s4 hrow2 (clA _) ⟨rfl, by decide, by omega⟩ fun bcs' => ?_
    have hset : setManyD row 0 (armR (-9, 0)) = armR (-9, 0) := by
      match row, hrl2 with
      | [_, _], _ => rfl
    rw [hset, biAdd, oD, wrap_i64 (by omega) (by omega)]
    have hwa : ∀ {a}, WArm S T2 kt ku a → WArm S (T2.set k ⟨2, rs.set j (armR (-9, 0)), bcs'⟩) kt ku a := fun h => h.set s4 (by simp) (set_len s6 rfl)
    refine ⟨c - 1, by omega, by trivial, by trivial, by trivial, by trivial, by trivial, by trivial, j + 1, rfl, by omega, ⟨DSt.le_set hw2.le s1, hw2.nt, hw2.nu, hw2.ne, ⟨rows, acs, ?_, hrl, hr4, fun j' r hj' hr' => ?_⟩, ?_⟩, ?_⟩
    · rw [DSt.set_ne _ _ _ (Ne.symm s2)]; exact hT2
    · obtain ⟨p', q', s', a', e, h⟩ := hrows' j' r hj' hr'
      exact ⟨p', q', s', a', e, hwa h⟩
    · obtain ⟨rs', acs', g1, g2, g3⟩ := hw2.pls
      exact ⟨rs', acs', by rw [DSt.set_ne _ _ _ (Ne.symm s3)]; exact g1, g2, g3⟩
    · rw [DSt.set_ne _ _ _ (Ne.symm s2)]; exact hT2
  · rw [show aggD (fillD [(D.int .u8 0), (.int .i64 0), (.int .i64 0), .nilSlc] [(0, 1, (.int .u8 99))]) = some (.agg [.int .u8 99, .int .i64 0, .int .i64 0, .nilSlc]) from rfl, oD, oD]
    refine stR (ds := [.int .u8 99, .int .i64 0, .int .i64 0, .nilSlc]) hT2 hr (clA _) ⟨rfl, by decide, by simp⟩ fun acs2 => ?_
    rw [show setManyD [q0, q1, q2, a] 0 [D.int .u8 99, .int .i64 0, .int .i64 0, .nilSlc] = [D.int .u8 99, .int .i64 0, .int .i64 0, .nilSlc] from rfl]
    obtain ⟨rs, bcs, g1, g2, g3⟩ := hw2.pls
    obtain ⟨row, hrow2⟩ : ∃ row, rs[i]? = some row := ⟨_, List.getElem?_eq_getElem (by omega)⟩
    have hrl2 := g3 row (List.mem_of_getElem? hrow2)
    rw [idxR hlt, oD, Nat.zero_add]
    refine stR (by rw [DSt.set_ne _ _ _ (Ne.symm hw2.ne)]; exact g1) hrow2 (clI _ _) ⟨rfl, by decide, by omega⟩ fun bcs2 => ?_
    have hset : setManyD row 0 [D.int .i64 (-1)] = [D.int .i64 (-1)] := by
      match row, hrl2 with
      | [_], _ => rfl
    rw [hset, biAdd, oD, wrap_i64 (by omega) (by omega)]
    refine ⟨n - 1, by omega, by trivial, by trivial, by trivial, by trivial, by trivial, i + 1, rfl, by omega, .inr ⟨by trivial, by trivial, DSt.le_set (DSt.le_set hw2.le hw2.nt) hw2.nu, hw2.nt, hw2.nu, hw2.ne, ⟨rows.set i [D.int .u8 99, .int .i64 0, .int .i64 0, .nilSlc], acs2, ?_, ?_, ?_, fun j' r hj' hr' => ?_⟩, ?_⟩⟩
    · rw [DSt.set_ne _ _ _ hw2.ne]; exact DSt.set_same _ _ _
    · simp [hrl]
    · exact set_len hr4 rfl
    · rw [List.getElem?_set_ne (by omega)] at hr'
      obtain ⟨p', q', s', a', e, h⟩ := hrows' j' r (by omega) hr'
      exact ⟨p', q', s', a', e, (h.ne (.inl rfl)).ne (.inr rfl)⟩
    · exact ⟨rs.set i [D.int .i64 (-1)], bcs2, DSt.set_same _ _ _, by simp [g2], set_len g3 rfl⟩
theorem reads_true {bs : List Int} (hb : ∀ b ∈ bs, Byte b) (hl : bs.length < 2 ^ 60) {n : Int} {S : DSt} : DFn Try.prog E w0 false f_law12_OpsReads [bD bs, .int .i64 n] S fun v _ => v = .bool true := by
  refine V_law12_OpsReads_ok ?_
  unfold V_law12_OpsReads
  rw [bD_len, oD, biGt, oD, cdI]
  refine ⟨fun _ => works_ok.use (FinD.here rfl), fun hsm => ?_⟩
  have hl : bs.length < 2 ^ 30 := by omega
  refine (kit_LentCode_ok hl).use ((ref12_Decode_ok hb hl).use ?_)
  obtain ⟨d, hd⟩ : ∃ d, d = decT bs n := ⟨_, rfl⟩
  rw [← hd]
  unfold datV
  simp only [exD, List.getElem?_cons_zero, List.getElem?_cons_succ, oD]
  intro k11 a11 n11
  refine (Cel.new (sz := 4) (c := [.int .u8 0, .int .i64 0, .int .i64 0, .nilSlc])).st (ds := inC (inOf d.1)) (clA _) ⟨rfl, by decide, by decide⟩ fun a11 => ?_
  rw [DSt.set_set, show setManyD [.int .u8 0, .int .i64 0, .int .i64 0, .nilSlc] 0 (inC (inOf d.1)) = inC (inOf d.1) from rfl]
  have le1 : S.le (S.set k11 ⟨4, [inC (inOf d.1)], a11⟩) := DSt.le_new n11
  have c11 : Cel (S.set k11 ⟨4, [inC (inOf d.1)], a11⟩) k11 4 (inC (inOf d.1)) := Cel.new
  refine DF.weak (es := [bD bs, .int .i64 n]) ⟨bX_wk bs, Wk.refl _, trivial⟩ ((ops_Decode_own hb hl).use ?_)
  rw [← hd]
  rintro v T1 ⟨tA, rfl, gA⟩
  have le2 : S.le T1 := DSt.le_trans le1 gA.le
  have c11 := c11.le gA.le
  have rA : RdA T1 tA d.1.2.2.2 := Grw.rdA gA
  unfold datT
  simp only [exD, List.getElem?_cons_zero, List.getElem?_cons_succ, oD]
  intro k20 a20 n20
  refine (Cel.new (sz := 4) (c := [.int .u8 0, .int .i64 0, .int .i64 0, .nilSlc])).st (ds := datC d.1.1 d.1.2.1 d.1.2.2.1 tA) (clA _) ⟨rfl, by decide, by decide⟩ fun a20 => ?_
  rw [DSt.set_set, show setManyD [.int .u8 0, .int .i64 0, .int .i64 0, .nilSlc] 0 (datC d.1.1 d.1.2.1 d.1.2.2.1 tA) = datC d.1.1 d.1.2.1 d.1.2.2.1 tA from rfl]
  have c20 : Cel (T1.set k20 ⟨4, [datC d.1.1 d.1.2.1 d.1.2.2.1 tA], a20⟩) k20 4 (datC d.1.1 d.1.2.1 d.1.2.2.1 tA) := Cel.new
  have le3 : T1.le (T1.set k20 ⟨4, [datC d.1.1 d.1.2.1 d.1.2.2.1 tA], a20⟩) := DSt.le_new n20
  have c11 := c11.le le3
  have rA := rA.le le3
  have le4 := DSt.le_trans le2 le3
  generalize T1.set k20 ⟨4, [datC d.1.1 d.1.2.1 d.1.2.2.1 tA], a20⟩ = T2 at *
  refine (ref12_All_ok hb hl).use ?_
  rw [allV_is]
  simp only [exD, List.getElem?_cons_zero, List.getElem?_cons_succ, oD]
  refine DF.weak (es := [bD bs]) ⟨bX_wk bs, trivial⟩ ((ops_All_own hb hl).use ?_)
  obtain ⟨i1, i2, i3⟩ := allL_ok hb
  -- what All answers
  have hall : ∀ v T3, AllOwn T2 (allS bs) v T3 → ∃ tl tp kt ku N, v = .tup [tl, tp, .int .i64 (allL (allS bs)).2.2] ∧ T2.le T3 ∧ N < 2 ^ 60 ∧ RdX T3 tl (allL (allS bs)).1 ∧ RdI T3 tp (allL (allS bs)).2.1 ∧
      ((N = 0 ∧ lenSl tl = some (.int .i64 0) ∧ T2.le T3) ∨ (tl = .raw kt 0 N N false 4 ∧ tp = .raw ku 0 N N false 1 ∧ WrAt T2 N 0 kt ku T3)) := fun v T3 h => by
    cases hr : allS bs with
    | error e =>
      rw [hr] at h
      obtain ⟨rfl, rfl⟩ := h
      exact ⟨.nilSlc, .nilSlc, 0, 0, 0, rfl, DSt.le_refl _, by decide, ⟨rfl, fun i y e => by simp [allL] at e⟩, ⟨rfl, fun i y e => by simp [allL] at e⟩, .inl ⟨rfl, rfl, DSt.le_refl _⟩⟩
    | ok l =>
      rw [hr] at h
      obtain ⟨ls, t, u, rfl, rfl, av, ⟨hle, hav, ht, hu⟩, hnew, harm⟩ := h
      have hlen : ls.length < 2 ^ 60 := by
        rw [hr] at i2
        have : ls.length ≤ bs.length := by simpa [allL, insOf] using i2
        omega
      have eL : (allL (.ok (ls.map (·.1)) : Except Int _)) = (insOf (ls.map (·.1)), plsOf (ls.map (·.1)), 0) := rfl
      rw [eL]
      have hrd : ∀ x ∈ ls, RdA T3 x.2 x.1.1.2.2.2 := fun x hx => by
        rcases harm x hx with ⟨h1, h2⟩ | ⟨k, acs, hk, h1, h2⟩
        · rw [h1, h2]; exact rdA_nil _
        · rw [h1]; exact rdA_raw h2
      by_cases hnil : ls = []
      · subst hnil
        refine ⟨t, u, 0, 0, 0, rfl, hle, by decide, ⟨ht.len, fun i y e => by simp [insOf] at e⟩, ⟨hu.len, fun i y e => by simp [plsOf] at e⟩, .inl ⟨rfl, ht.len, hle⟩⟩
      · rcases ht with ⟨_, h⟩ | ⟨kt, at', t0, t1, rfl, t3⟩
        · exact (hnil (by simpa [ownR] using h)).elim
        rcases hu with ⟨_, h⟩ | ⟨ku, au, u0, u1, rfl, u3⟩
        · exact (hnil (by simpa [plsOf, iC, ones] using h)).elim
        have e1 : (ownR ls).length = ls.length := by simp [ownR]
        have e2 : (iC (plsOf (ls.map (·.1)))).length = ls.length := by simp [plsOf]
        rw [e1, e2]
        refine ⟨_, _, kt, ku, ls.length, rfl, hle, hlen, ⟨by simp [insOf], fun i y hy => ?_⟩, ⟨by simp [plsOf], fun i y hy => ?_⟩, .inr ⟨rfl, rfl, hle, t0, u0, fun e => t1 (by simp [ob, e]), ⟨_, _, t3, e1, ?_, fun j r _ hj => ?_⟩, ⟨_, _, u3, e2, ?_⟩⟩⟩
        · simp only [insOf, List.map_map, List.getElem?_map, Option.map_eq_some_iff] at hy
          obtain ⟨x, hx, rfl⟩ := hy
          have hi := (List.getElem?_eq_some_iff.1 hx).1
          refine ⟨_, x.2, idxR hi, fun S' hl => ?_, hrd x (List.mem_of_getElem? hx)⟩
          rw [Nat.zero_add, laR (hl _ _ t3) (row := datC x.1.1.1 x.1.1.2.1 x.1.1.2.2.1 x.2) (by simp only [ownR, List.getElem?_map, hx]; rfl) ⟨by decide, by simp [datC]⟩]
          rfl
        · have hi : i < ls.length := by have := (List.getElem?_eq_some_iff.1 hy).1; simpa [plsOf] using this
          refine ⟨_, idxR hi, ?_⟩
          rw [Nat.zero_add, ldR u3 (iC_at hy)]
          rfl
        · intro r hr
          simp only [ownR, List.mem_map] at hr
          obtain ⟨x, _, rfl⟩ := hr
          rfl
        · simp only [ownR, List.getElem?_map, Option.map_eq_some_iff] at hj
          obtain ⟨x, hx, rfl⟩ := hj
          refine ⟨_, _, _, x.2, rfl, ?_⟩
          rcases harm x (List.mem_of_getElem? hx) with ⟨h1, h2⟩ | ⟨k, acs, hk, h1, h2⟩
          · exact .inl h1
          · refine .inr ⟨k, _, _, acs, h1, hnew k hk, fun e => t1 (by rw [← e]; simp [hk]), fun e => u1 (by rw [← e]; simp [hk]), h2, rfl, fun r hr => ?_, ?_⟩
            · obtain ⟨y, _, rfl⟩ := List.mem_map.1 hr; rfl
            · have hx' := i1 (inOf x.1.1) (by rw [hr]; exact List.mem_map.2 ⟨x.1, List.mem_map.2 ⟨x, List.mem_of_getElem? hx, rfl⟩, rfl⟩)
              have := hx'.short
              have e : (inOf x.1.1).arms = x.1.1.2.2.2 := rfl
              rw [e] at this
              rw [List.length_map]; omega
        · intro r hr
          simp only [iC, ones, List.mem_map] at hr
          obtain ⟨_, _, rfl⟩ := hr
          rfl
  rintro v T3 hv
  obtain ⟨tl, tp, kt, ku, N, rfl, hle, hN, rX, rI, hcase⟩ := hall v T3 hv
  have c11 := c11.le hle
  have c20 := c20.le hle
  have rA := rA.le hle
  simp only [exD, List.getElem?_cons_zero, List.getElem?_cons_succ, oD]
  rw [c20.all (n := 4) (by decide) rfl, oD, c11.all (n := 4) (by decide) rfl, oD]
  have hok : (inOf d.1).Ok := by
    by_cases he : d.2.2 = 0
    · rw [hd] at he ⊢; exact (decT_is hb he (inOf_dat _)).2.2.1
    · rw [hd] at he ⊢; rw [(decT_err he).1]
      exact ⟨by decide, ⟨by decide, by decide⟩, ⟨by decide, by decide⟩, fun y hy => (by cases hy), (by decide)⟩
  refine DFn.use (sameInstr_rd hok hok rA (rdA_lst T3 _)) ?_
  rintro v S' ⟨rfl, rfl⟩
  have f1 : (false == false) = true := rfl
  have f2 : ∀ a : Int, (a != a) = false := fun a => by simp
  simp only [sameIn_refl, unN, oD, Bool.not_true, wdB, f1, vdT, gdT, biNe, f2, pdB, Bool.false_eq_true, if_false]
  refine (sameInstrs_rd i1 i1 (by omega) (by omega) rX (rdX_lst _ _)).use ?_
  rintro v S' ⟨rfl, rfl⟩
  simp only [decide_true, unN, oD, Bool.not_true, wdB, f1, vdT, gdT, biNe, f2, pdB, Bool.false_eq_true, if_false]
  refine (sameInts_rd (by omega) (by omega) rI (rdI_lst _ _)).use ?_
  rintro v S' ⟨rfl, rfl⟩
  simp only [decide_true, unN, oD, Bool.not_true, wdB, f1, vdT, gdT, biNe, f2, pdB, Bool.false_eq_true, if_false]
  refine (kit_KeptCode_ok (by omega)).use ?_
  simp only [unN, oD, Bool.not_true, wdB, f1, vdT, gdT, pdB, Bool.false_eq_true, if_false, cdF]
  exact reads_loop hb hl rfl rfl hN hcase
end
end Go.Proofs.Ytcboaonbfgjmgaa.d
end

section
open Go Go.Am
namespace Go.Am.Old
open Go.ChangeShapes Go.WideShapes Go.ChangeAt Go.RowKit
set_option linter.unusedVariables false
set_option linter.unusedSimpArgs false
set_option maxRecDepth 100000
section
variable {H : Type} {enc : TypeId × Value → H} {P : Program} {W : World} {b0 : Nat} {sp : Nat → Bool} {hd : Bool}
theorem trod_int {n : Nat} {t : TypeId} {k : IntKind} {cs : List Value} {x : DataW H × List MemPlace} (ht : P.underlying t = some (.int k)) (h : DataW.trod enc P W b0 sp hd n t cs = some x) : ∃ z, cs = [.int k z] ∧ (Lit.int k z).wf = true := by
  cases n with
  | zero => simp [DataW.trod] at h
  | succ n =>
    simp only [DataW.trod, ht] at h
    split at h
    all_goals (first | (cases h; done) | skip)
    all_goals simp_all
    all_goals (first | (obtain ⟨⟨rfl, h2⟩, _⟩ := h; exact ⟨_, ⟨rfl, rfl⟩, h2⟩) | skip)
end
theorem mapM_get {α β : Type} {f : α → Option β} : ∀ {l : List α} {r : List β}, l.mapM f = some r → ∀ (i : Nat) (x : α), l[i]? = some x → ∃ y, r[i]? = some y ∧ f x = some y
  | [], r, h, i, x, hx => by simp at hx
  | a :: l, r, h, i, x, hx => by
    simp only [List.mapM_cons, Option.bind_eq_bind, Option.bind_eq_some_iff] at h
    obtain ⟨b, hb, bs, hbs, h⟩ := h
    cases h
    cases i with
    | zero => simp at hx; subst hx; exact ⟨b, rfl, hb⟩
    | succ i =>
      have hx' : l[i]? = some x := by simpa using hx
      obtain ⟨y, h1, h2⟩ := mapM_get hbs i x hx'
      exact ⟨y, by simpa using h1, h2⟩
theorem mapM_length {α β : Type} {f : α → Option β} : ∀ {l : List α} {r : List β}, l.mapM f = some r → r.length = l.length
  | [], r, h => by simp at h; subst h; rfl
  | a :: l, r, h => by
    simp only [List.mapM_cons, Option.bind_eq_bind, Option.bind_eq_some_iff] at h
    obtain ⟨b, hb, bs, hbs, h⟩ := h
    cases h
    simp [mapM_length hbs]
theorem weightsAll_mem {H : Type} {P : Program} {e : TypeId} : ∀ {l : List (DataW H)} {d : DataW H}, d ∈ l → ∀ n ∈ DataW.weights P e d, n ∈ DataW.weightsAll P e l
  | a :: l, d, h, n, hn => by
    simp only [DataW.weightsAll]
    rcases List.mem_cons.1 h with rfl | h
    · exact List.mem_append_left _ hn
    · exact List.mem_append_right _ (weightsAll_mem h n hn)
/-- A slice of things of a size: its cells. -/
theorem slice_cells {H : Type} {enc : TypeId × Value → H} {P : Program} {W : World} {hd : Bool} {n : Nat} {t e : TypeId} {sz : Nat} {cs : List Value} {x : DataW H × List MemPlace} (ht : P.underlying t = some (.slice e)) (hc : P.cellsOf e = sz) (hsz : 0 < sz)
    (h : DataW.trod enc P W 0 (fun _ => true) hd n t cs = some x) : ∃ c, cs = [c] ∧ ((old1 c = .nilSlc) ∨ ∃ (b i len cap m : Nat) (els : List (DataW H × List MemPlace)), old1 c = .slc (.old b) i len cap true 1 ∧ len ≤ cap ∧ els.length = len ∧ (∀ d ∈ els, ∀ k ∈ DataW.weights P e d.1, k ∈ DataW.weights P t x.1) ∧
      (∀ k : Nat, len * P.bytesOf e ≤ k ∨ k ∈ DataW.weights P t x.1 ∨ True) ∧ (∃ k ∈ DataW.weights P t x.1, len * P.bytesOf e ≤ k) ∧
      ∀ j d, els[j]? = some d → ∃ (all : List AV) (vs : List Value), envOf W b = some all ∧ (all.drop (i + j * sz)).take sz = vs.map old1 ∧ DataW.trod enc P W 0 (fun _ => true) hd m e vs = some d) := by
  rcases DataW.trod_slice ht h with ⟨e1, _⟩ | ⟨a, len, cap, elems, rest, m, _, e1, hx, _, hl, hm, hlen, hel, hsp, _⟩
  · exact ⟨_, e1, .inl rfl⟩
  · refine ⟨_, e1, .inr ?_⟩
    have hd' : x.1 = .slice (elems.map (·.1)) (rest.map (·.1)) := by rw [hx]
    have hcell : ∀ {c : Addr} {cs : List Value}, W.cells? 0 c sz = some cs → cs.length = sz ∧ ∀ j, j < sz → ∃ x, cs[j]? = some x ∧ W.cell? (c.add j) = some x := by
      intro c cs hc
      unfold World.cells? at hc
      rw [if_pos (Nat.zero_le _)] at hc
      refine ⟨by have := mapM_length hc; simpa using this, fun j hj => ?_⟩
      obtain ⟨y, h1, h2⟩ := mapM_get hc j j (by rw [List.getElem?_range hj])
      exact ⟨y, h1, h2⟩
    have hs : cap = 0 ∨ a.spot = none := by
      by_cases h0 : cap = 0
      · exact .inl h0
      · right
        by_cases hl0 : len = 0
        · obtain ⟨r1, r2⟩ := hsp rfl
          have := r2 0 (by omega)
          rw [hc, hl0, List.getElem?_eq_getElem (by omega)] at this
          obtain ⟨cs, h1, _⟩ := Option.bind_eq_some_iff.1 this
          obtain ⟨x, _, h2⟩ := (hcell h1).2 0 hsz
          simp only [Nat.add_zero, Nat.zero_mul] at h2
          exact (spot_of_cell h2).1
        · have := hel 0 (by omega)
          rw [hc, List.getElem?_eq_getElem (by omega)] at this
          obtain ⟨cs, h1, _⟩ := Option.bind_eq_some_iff.1 this
          obtain ⟨x, _, h2⟩ := (hcell h1).2 0 hsz
          simp only [Nat.add_zero, Nat.zero_mul] at h2
          exact (spot_of_cell h2).1
    refine ⟨a.block, a.off, len, cap, m, elems, ?_, by omega, hlen, ?_, fun _ => .inr (.inr trivial), ⟨(elems.length + rest.length) * P.bytesOf e, ?_, ?_⟩, ?_⟩
    · simp only [old1]
      rw [if_pos ⟨hl, hs⟩]
    · intro d hdm k hk
      rw [hd']
      simp only [DataW.weights, ht]
      exact List.mem_cons_of_mem _ (List.mem_append_left _ (weightsAll_mem (d := d.1) (List.mem_map.2 ⟨d, hdm, rfl⟩) k hk))
    · rw [hd']; simp [DataW.weights, ht]
    · rw [hlen]; exact Nat.mul_le_mul_right _ (by omega)
    · intro i d hid
      have hi : i < len := by have := (List.getElem?_eq_some_iff.1 hid).1; omega
      have hi' := hel i hi
      rw [hc, hid] at hi'
      obtain ⟨cs, h1, h2⟩ := Option.bind_eq_some_iff.1 hi'
      obtain ⟨c1, c2⟩ := hcell h1
      have hs' : a.spot = none := hs.resolve_left (by omega)
      have hadd : ∀ j, (a.add (i * sz)).add j = ⟨a.block, a.off + i * sz + j, none⟩ := by
        intro j
        obtain ⟨b, of, s⟩ := a
        simp only at hs'
        subst hs'
        unfold Addr.add
        split <;> split <;> simp_all
      obtain ⟨x0, _, hx0⟩ := c2 0 hsz
      rw [hadd] at hx0
      obtain ⟨_, arr, el, fr, hb, _⟩ := spot_of_cell hx0
      simp only at hb
      refine ⟨arr.toList.map old1, cs, by unfold envOf; rw [hb], ?_, h2⟩
      refine List.ext_getElem? fun j => ?_
      rw [List.getElem?_take]
      split
      · rename_i hj
        obtain ⟨xj, hj1, hj2⟩ := c2 j hj
        rw [hadd] at hj2
        obtain ⟨_, arr', el', fr', hb', hj3⟩ := spot_of_cell hj2
        simp only at hb' hj3
        rw [hb] at hb'
        cases hb'
        rw [List.getElem?_drop, List.getElem?_map, Array.getElem?_toList, hj3, List.getElem?_map, hj1]
      · rename_i hj
        rw [List.getElem?_map, List.getElem?_eq_none (by omega)]
        rfl
theorem wf_i64 {z : Int} (h : (Lit.int .i64 z).wf = true) : -9223372036854775808 ≤ z ∧ z ≤ 9223372036854775807 := by
  simp only [Lit.wf, Bool.and_eq_true, decide_eq_true_eq] at h
  have h1 : IntKind.i64.min = -9223372036854775808 := rfl
  have h2 : IntKind.i64.max = 9223372036854775807 := rfl
  omega
theorem wf_u8 {z : Int} (h : (Lit.int .u8 z).wf = true) : 0 ≤ z ∧ z ≤ 255 := by
  simp only [Lit.wf, Bool.and_eq_true, decide_eq_true_eq] at h
  have h1 : IntKind.u8.min = 0 := rfl
  have h2 : IntKind.u8.max = 255 := rfl
  omega
section
variable {H : Type} {enc : TypeId × Value → H} {P : Program} {W : World} {hd : Bool}
/-- A slice of the caller's is a list. -/
theorem rp_slice {α : Type} [Inhabited α] {row : α → List D} {Good : α → Prop} {n : Nat} {t e : TypeId} {sz : Nat} {cs : List Value} {x : DataW H × List MemPlace} (ht : P.underlying t = some (.slice e)) (hc : P.cellsOf e = sz) (hsz : 0 < sz) (hrow : ∀ a, (row a).length = sz)
    (h : DataW.trod enc P W 0 (fun _ => true) hd n t cs = some x)
    (f : ∀ m vs d, DataW.trod enc P W 0 (fun _ => true) hd m e vs = some d → (∀ k ∈ DataW.weights P e d.1, k ∈ DataW.weights P t x.1) → ∃ a, Good a ∧ (∀ R, RpL (envOf W) R (row a) (vs.map old1)) ∧ (vs.map old1).all scalar = true) :
    ∃ c l, cs = [c] ∧ (∀ a ∈ l, Good a) ∧ (∀ R, Rp (envOf W) R (.lst (l.map row) sz) (old1 c)) ∧ scalar (old1 c) = true ∧ (l = [] ∨ ∃ k ∈ DataW.weights P t x.1, l.length * P.bytesOf e ≤ k) := by
  obtain ⟨c, e0, h1 | ⟨b, i, len, cap, m, els, h1, hlc, h2, h3, _, hk, h6⟩⟩ := slice_cells ht hc hsz h
  · exact ⟨c, [], e0, by simp, fun R => by rw [h1]; simp only [Rp]; exact .inl ⟨by trivial, by trivial⟩, by rw [h1]; rfl, .inl rfl⟩
  · have each : ∀ j, ∃ a : α, j < len → Good a ∧ ∃ all, envOf W b = some all ∧ (∀ R, RpL (envOf W) R (row a) ((all.drop (i + j * sz)).take sz)) ∧ ((all.drop (i + j * sz)).take sz).all scalar = true := by
      intro j
      by_cases hj : j < len
      · obtain ⟨all, vs, g1, g2, g3⟩ := h6 j _ (List.getElem?_eq_getElem (by omega : j < els.length))
        obtain ⟨a, q1, q2, q3⟩ := f m vs _ g3 (h3 _ (List.getElem_mem _))
        exact ⟨a, fun _ => ⟨q1, all, g1, by rw [g2]; exact q2, by rw [g2]; exact q3⟩⟩
      · exact ⟨default, fun h => (hj h).elim⟩
    obtain ⟨g, hg⟩ := Classical.axiomOfChoice each
    have main : ∀ (all : List AV), envOf W b = some all → ∀ N, N ≤ len → (∀ R, RpLL (envOf W) R (((List.range N).map g).map row) ((all.drop i).take (N * sz))) ∧ ((all.drop i).take (N * sz)).all scalar = true := by
      intro all hall N
      induction N with
      | zero => intro _; exact ⟨fun R => by simp [RpLL], by simp⟩
      | succ N ih =>
        intro hN
        obtain ⟨i1, i2⟩ := ih (by omega)
        obtain ⟨_, all', g1, g2, g3⟩ := hg N (by omega)
        rw [hall] at g1
        cases g1
        have e1 : (all.drop i).take ((N + 1) * sz) = (all.drop i).take (N * sz) ++ (all.drop (i + N * sz)).take sz := by
          rw [Nat.succ_mul, List.take_add, List.drop_drop]
        rw [e1]
        refine ⟨fun R => ?_, by rw [List.all_append, i2, g3]; rfl⟩
        rw [List.range_succ, List.map_append, List.map_append, rpLL_iff, List.flatten_append]
        refine (rpLL_iff.1 (i1 R)).append ?_
        simpa using g2 R
    refine ⟨c, (List.range len).map g, e0, fun a ha => ?_, fun R => ?_, by rw [h1]; rfl, .inr ?_⟩
    · obtain ⟨j, hj, rfl⟩ := List.mem_map.1 ha
      exact (hg j (List.mem_range.1 hj)).1
    · rw [h1]
      simp only [Rp]
      refine .inr ⟨.old b, i, cap, true, 1, by simp, trivial, by simpa using hlc, ?_, ?_⟩
      · intro r hr
        obtain ⟨a, _, rfl⟩ := List.mem_map.1 hr
        exact hrow a
      · by_cases h0 : len = 0
        · left; subst h0; rfl
        · right
          obtain ⟨_, all, g1, _⟩ := hg 0 (by omega)
          obtain ⟨m1, m2⟩ := main all g1 len (Nat.le_refl _)
          exact ⟨all, g1, by simpa using m1 R, by simpa using m2⟩
    · obtain ⟨k, hk1, hk2⟩ := hk
      exact ⟨k, hk1, by simpa using hk2⟩
end
section
variable {H : Type} {enc : TypeId × Value → H} {P : Program} {W : World} {hd : Bool}
theorem rd_int {n : Nat} {t : TypeId} {k : IntKind} {cs : List Value} {x : DataW H × List MemPlace} (ht : P.underlying t = some (.int k)) (h : DataW.trod enc P W 0 (fun _ => true) hd n t cs = some x) :
    ∃ z : Int, (Lit.int k z).wf = true ∧ (∀ R, RpL (envOf W) R [.int k z] (cs.map old1)) ∧ (cs.map old1).all scalar = true := by
  obtain ⟨z, rfl, w⟩ := trod_int ht h
  refine ⟨z, w, fun R => ?_, rfl⟩
  simp only [List.map_cons, List.map_nil, RpL, Rp]
  exact ⟨_, _, rfl, rfl, rfl⟩
end
section
variable {H : Type} {enc : TypeId × Value → H} {P : Program} {W : World} {hd : Bool}
end
end Go.Am.Old
end
