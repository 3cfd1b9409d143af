/-
  Texts Vf Cy Cz Ea Eb Ec Ed Ef, as far as they are used.
-/
import Derived.Test.YtcboaonbfgjmgaaRows
import Derived.Test.YtcboaonbfgjmgaaZau
import Derived.KernelRfl
import Derived.Test.YtcboaonbfgjmgaaZbf
import Derived.Test.YtcboaonbfgjmgaaZaz
import Derived.Test.YtcboaonbfgjmgaaZam
import Derived.SizedLaws
import Derived.Test.YtcboaonbfgjmgaaZbb
section
open Go.Proofs Go Go.Am
namespace Go.Proofs.Ytcboaonbfgjmgaa.d
set_option linter.unusedVariables false
set_option maxRecDepth 100000
/- trammel/trammellaw12.OpsTakes -/
def lo_law12_OpsTakes : List (Nat × List Nat) := [(20, [2, 3, 5, 6, 10, 11, 13]), (28, [2, 3, 5, 6, 11, 14])]
def cu_law12_OpsTakes : List (Nat × List Nat) := []
noncomputable def L_law12_OpsTakes_1 : Code := (codeAt [1, 1, 1, 1, 1, 1, 1, 1, 0, 1, 0, 0] (Try.f9.body.getD .skip))
def K_law12_OpsTakes_1 (E : Env) (w0 : World) (x : Bool) (Q : D → DSt → Prop) : AExit → List D → DSt → Prop :=
  (blockD 2 (seqD Try.prog E w0 x lo_law12_OpsTakes cu_law12_OpsTakes (codeAt [1, 1, 1, 1, 1, 1, 1, 1, 1] (Try.f9.body.getD .skip)) (retD Try.prog Try.f9 Q)))
def B_law12_OpsTakes_1 (E : Env) (w0 : World) (x : Bool) (N1 : D → D → D → D → D → D → DSt → Prop) (Q : D → DSt → Prop) (x2 x3 x5 x6 x11 x14 : D) (S : DSt) : Prop :=
  optW (lenSl x11) fun v62 =>
  optW (binI .lss x14 v62) fun v63 =>
  condD v63
  (optW (idxSl 1 x11 x14) fun v64 =>
  storeD S 1 v64 (.int .i64 (-9)) fun v65 S66 =>
  optW (binI .add x14 (.int .i64 1)) fun v67 =>
  N1 x2 x3 x5 x6 x11 v67 S66)
  (optW (loadAg S 4 x5) fun v68 =>
  optW (loadAg S 4 x2) fun v69 =>
  DFn Try.prog E w0 x f_kit_KeptInstr [v68, v69] S fun v70 S71 =>
  optW (valGD (wantsD v70 true) (loadAg S71 3 x6)) fun v72 =>
  optW (valGD (wantsD v70 true) (loadAg S71 3 x3)) fun v73 =>
  guardD (wantsD v70 true) (fun K => DFn Try.prog E w0 x f_kit_KeptModule [v72, v73] S71 K) S71 fun v74 S75 =>
  optW (pickD v70 v74 (.bool false)) fun v76 =>
  guardD (wantsD v76 true) (fun K => DFn Try.prog E w0 x f_law12_works [] S75 K) S75 fun v77 S78 =>
  optW (pickD v76 v77 (.bool false)) fun v79 =>
  Q v79 S78)
theorem B_law12_OpsTakes_1_ok {E : Env} {w0 : World} {x : Bool} {N1 : D → D → D → D → D → D → DSt → Prop} {Q : D → DSt → Prop} {x2 x3 x5 x6 x11 x14 : D} {S : DSt} (h : B_law12_OpsTakes_1 E w0 x N1 Q x2 x3 x5 x6 x11 x14 S) :
    CodeD Try.prog E w0 x L_law12_OpsTakes_1 (mkRow 87 [2, 3, 5, 6, 11, 14] [x2, x3, x5, x6, x11, x14]) S (loopKD (fun T S => N1 (T.getD 2 undefD) (T.getD 3 undefD) (T.getD 5 undefD) (T.getD 6 undefD) (T.getD 11 undefD) (T.getD 14 undefD) S) (K_law12_OpsTakes_1 E w0 x Q)) := codeD_of_vc lo_law12_OpsTakes cu_law12_OpsTakes mixed (by kernel_rfl) h
theorem loop_law12_OpsTakes_1 {E : Env} {w0 : World} {x : Bool} {Q : D → DSt → Prop} (I : Nat → D → D → D → D → D → D → DSt → Prop)
    (step : ∀ n x2 x3 x5 x6 x11 x14 S, I n x2 x3 x5 x6 x11 x14 S → B_law12_OpsTakes_1 E w0 x (fun x2 x3 x5 x6 x11 x14 S => ∃ m, m < n ∧ I m x2 x3 x5 x6 x11 x14 S) Q x2 x3 x5 x6 x11 x14 S)
    {n : Nat} {x2 x3 x5 x6 x11 x14 : D} {S : DSt} (h : I n x2 x3 x5 x6 x11 x14 S) : CodeD Try.prog E w0 x (.loop L_law12_OpsTakes_1) (mkRow 87 [2, 3, 5, 6, 11, 14] [x2, x3, x5, x6, x11, x14]) S (K_law12_OpsTakes_1 E w0 x Q) :=
  codeD_loop (k := 87) (n := n) (I := fun n T S => I n (T.getD 2 undefD) (T.getD 3 undefD) (T.getD 5 undefD) (T.getD 6 undefD) (T.getD 11 undefD) (T.getD 14 undefD) S) (fun n T S hl hI => codeD_row [2, 3, 5, 6, 11, 14] hl (CodeD.mono (B_law12_OpsTakes_1_ok (step n _ _ _ _ _ _ S hI)) fun ex T' S' _ hq => by cases ex <;> exact hq)) (mkRow_length ..) (Eq.mp (by kernel_rfl) h)
noncomputable def L_law12_OpsTakes_0 : Code := (codeAt [1, 1, 1, 1, 1, 1, 1, 0, 1, 0, 0] (Try.f9.body.getD .skip))
def K_law12_OpsTakes_0 (E : Env) (w0 : World) (x : Bool) (Q : D → DSt → Prop) : AExit → List D → DSt → Prop :=
  (blockD 0 (seqD Try.prog E w0 x lo_law12_OpsTakes cu_law12_OpsTakes (codeAt [1, 1, 1, 1, 1, 1, 1, 1] (Try.f9.body.getD .skip)) (retD Try.prog Try.f9 Q)))
def B_law12_OpsTakes_0 (E : Env) (w0 : World) (x : Bool) (N0 : D → D → D → D → D → D → D → DSt → Prop) (Q : D → DSt → Prop) (x2 x3 x5 x6 x10 x11 x13 : D) (S : DSt) : Prop :=
  optW (lenSl x10) fun v56 =>
  optW (binI .lss x13 v56) fun v57 =>
  condD v57
  (optW (idxSl 1 x10 x13) fun v58 =>
  storeD S 1 v58 (.int .i64 (-9)) fun v59 S60 =>
  optW (binI .add x13 (.int .i64 1)) fun v61 =>
  N0 x2 x3 x5 x6 x10 x11 v61 S60)
  (CodeD Try.prog E w0 x (.loop L_law12_OpsTakes_1) (mkRow 87 [2, 3, 5, 6, 11, 14] [x2, x3, x5, x6, x11, (.int .i64 0)]) S (K_law12_OpsTakes_1 E w0 x Q))
theorem B_law12_OpsTakes_0_ok {E : Env} {w0 : World} {x : Bool} {N0 : D → D → D → D → D → D → D → DSt → Prop} {Q : D → DSt → Prop} {x2 x3 x5 x6 x10 x11 x13 : D} {S : DSt} (h : B_law12_OpsTakes_0 E w0 x N0 Q x2 x3 x5 x6 x10 x11 x13 S) :
    CodeD Try.prog E w0 x L_law12_OpsTakes_0 (mkRow 87 [2, 3, 5, 6, 10, 11, 13] [x2, x3, x5, x6, x10, x11, x13]) S (loopKD (fun T S => N0 (T.getD 2 undefD) (T.getD 3 undefD) (T.getD 5 undefD) (T.getD 6 undefD) (T.getD 10 undefD) (T.getD 11 undefD) (T.getD 13 undefD) S) (K_law12_OpsTakes_0 E w0 x Q)) := codeD_of_vc lo_law12_OpsTakes cu_law12_OpsTakes mixed (by kernel_rfl) h
theorem loop_law12_OpsTakes_0 {E : Env} {w0 : World} {x : Bool} {Q : D → DSt → Prop} (I : Nat → D → D → D → D → D → D → D → DSt → Prop)
    (step : ∀ n x2 x3 x5 x6 x10 x11 x13 S, I n x2 x3 x5 x6 x10 x11 x13 S → B_law12_OpsTakes_0 E w0 x (fun x2 x3 x5 x6 x10 x11 x13 S => ∃ m, m < n ∧ I m x2 x3 x5 x6 x10 x11 x13 S) Q x2 x3 x5 x6 x10 x11 x13 S)
    {n : Nat} {x2 x3 x5 x6 x10 x11 x13 : D} {S : DSt} (h : I n x2 x3 x5 x6 x10 x11 x13 S) : CodeD Try.prog E w0 x (.loop L_law12_OpsTakes_0) (mkRow 87 [2, 3, 5, 6, 10, 11, 13] [x2, x3, x5, x6, x10, x11, x13]) S (K_law12_OpsTakes_0 E w0 x Q) :=
  codeD_loop (k := 87) (n := n) (I := fun n T S => I n (T.getD 2 undefD) (T.getD 3 undefD) (T.getD 5 undefD) (T.getD 6 undefD) (T.getD 10 undefD) (T.getD 11 undefD) (T.getD 13 undefD) S) (fun n T S hl hI => codeD_row [2, 3, 5, 6, 10, 11, 13] hl (CodeD.mono (B_law12_OpsTakes_0_ok (step n _ _ _ _ _ _ _ S hI)) fun ex T' S' _ hq => by cases ex <;> exact hq)) (mkRow_length ..) (Eq.mp (by kernel_rfl) h)
def V_law12_OpsTakes (E : Env) (w0 : World) (x : Bool) (Q : D → DSt → Prop) (a0 a1 : D) (S : DSt) : Prop :=
  optW (cellsD a0) fun cs => allocD S cs fun v0 S1 =>
  optW (cellsD a1) fun cs => allocD S1 cs fun v2 S3 =>
  optW (offD 3 v0) fun v4 =>
  optW (loadSc S3 v4) fun v5 =>
  optW (lenSl v5) fun v6 =>
  optW (binI .gtr v6 (.int .i64 1000)) fun v7 =>
  optW (valGD (wantsD v7 false) (loadAg S3 3 v2)) fun v8 =>
  guardD (wantsD v7 false) (fun K => DFn Try.prog E w0 x f_kit_Bulk [v8, (.int .i64 10000)] S3 K) S3 fun v9 S10 =>
  optW (valGD (wantsD v7 false) (binI .gtr v9 (.int .i64 10000))) fun v11 =>
  optW (pickD v7 (.bool true) v11) fun v12 =>
  condD v12
  (DFn Try.prog E w0 x f_law12_works [] S10 fun v13 S14 =>
  Q v13 S14)
  (optW (loadAg S10 4 v0) fun v15 =>
  DFn Try.prog E w0 x f_kit_LentInstr [v15] S10 fun v16 S17 =>
  allocD S17 [(.int .u8 0), (.int .i64 0), (.int .i64 0), .nilSlc] fun v18 S19 =>
  storeD S19 4 v18 v16 fun v20 S21 =>
  optW (loadAg S21 3 v2) fun v22 =>
  DFn Try.prog E w0 x f_kit_LentModule [v22] S21 fun v23 S24 =>
  allocD S24 [.nilSlc, .nilSlc, .nilSlc] fun v25 S26 =>
  storeD S26 3 v25 v23 fun v27 S28 =>
  optW (loadAg S28 4 v0) fun v29 =>
  optW (loadAg S28 3 v2) fun v30 =>
  DFn Try.prog E w0 x f_ref12_Takes [v29, v30] S28 fun v31 S32 =>
  optW (extractD v31 0) fun v33 =>
  optW (extractD v31 1) fun v34 =>
  optW (extractD v31 2) fun v35 =>
  optW (loadAg S32 4 v18) fun v36 =>
  optW (loadAg S32 3 v25) fun v37 =>
  DFn Try.prog E w0 x f_ops_Takes [v36, v37] S32 fun v38 S39 =>
  optW (extractD v38 0) fun v40 =>
  optW (extractD v38 1) fun v41 =>
  optW (extractD v38 2) fun v42 =>
  DFn Try.prog E w0 x f_kit_SameInts [v40, v33] S39 fun v43 S44 =>
  optW (unD .not v43) fun v45 =>
  optW (valGD (wantsD v45 false) (some v41)) fun v46 =>
  optW (valGD (wantsD v45 false) (some v34)) fun v47 =>
  guardD (wantsD v45 false) (fun K => DFn Try.prog E w0 x f_kit_SameInts [v46, v47] S44 K) S44 fun v48 S49 =>
  optW (valGD (wantsD v45 false) (unD .not v48)) fun v50 =>
  optW (pickD v45 (.bool true) v50) fun v51 =>
  optW (valGD (wantsD v51 false) (some v42)) fun v52 =>
  optW (valGD (wantsD v51 false) (some v35)) fun v53 =>
  optW (valGD (wantsD v51 false) (binI .neq v52 v53)) fun v54 =>
  optW (pickD v51 (.bool true) v54) fun v55 =>
  condD v55
  (Q (.bool false) S49)
  (CodeD Try.prog E w0 x (.loop L_law12_OpsTakes_0) (mkRow 87 [2, 3, 5, 6, 10, 11, 13] [v0, v2, v18, v25, v40, v41, (.int .i64 0)]) S49 (K_law12_OpsTakes_0 E w0 x Q)))
theorem V_law12_OpsTakes_ok {E : Env} {w0 : World} {x : Bool} {Q : D → DSt → Prop} {a0 a1 : D} {S : DSt} (h : V_law12_OpsTakes E w0 x (FinD E Q) a0 a1 S) : DFn Try.prog E w0 x f_law12_OpsTakes [a0, a1] S Q :=
  fnD_of_vc lo_law12_OpsTakes cu_law12_OpsTakes (fn := Try.f9) (c := Try.f9.body.getD .skip) mixed Try.func9 (by kernel_rfl) (by kernel_rfl) h
end Go.Proofs.Ytcboaonbfgjmgaa.d
end

section
open Go.Proofs Go Go.Am Go.Op
namespace Go.Proofs.Ytcboaonbfgjmgaa.d
set_option linter.unusedVariables false
set_option linter.unusedSimpArgs false
set_option maxRecDepth 100000
section
variable {E : Env} {w0 : World}
theorem works_ok : Pure Try.prog E w0 f_law12_works [] (.bool true) := fun x S => by
  have key : ∀ H, FnX Try.prog E w0 f_law12_works [] H fun v H' => v = .bool true ∧ H' = H := fun H => by
    have h : (callFA Try.prog (fun _ => none) noOv 200 f_law12_works [] AHeap.empty).map (·.1) = some (.bool true) := by kernel_rfl
    cases hr : callFA Try.prog (fun _ => none) noOv 200 f_law12_works [] AHeap.empty with
    | none => rw [hr] at h; cases h
    | some r =>
      obtain ⟨v, H1⟩ := r
      rw [hr] at h
      simp only [Option.map_some, Option.some.injEq] at h
      subst h
      refine (fnX_pure mixed hr ?_ ?_).mono fun v' H' h => h
      · intro ρ vs h
        exact h
      · intro ρ ρ' u h
        exact h
  refine DFn.any ?_
  intro R H avs hF hC ha
  have : avs = [] := by simpa only [RpL] using ha
  subst this
  refine (key H).mono ?_
  rintro v H' ⟨rfl, rfl⟩
  exact ⟨hF, R, S, .bool true, Fz.le_refl R, hC, by simp only [Rp], rfl, rfl⟩
/-- The numbers are written over: lists of one's own. -/
theorem own_len {S0 S : DSt} {d : D} {l : List Int} (h : Own S0 d l S) : lenSl d = some (.int .i64 (l.length : Int)) := by
  rcases h with ⟨rfl, rfl, rfl⟩ | ⟨k, acs, ex, _, rfl, rfl⟩ <;> rfl
theorem own_set {S0 S : DSt} {d : D} {l : List Int} (h : Own S0 d l S) {i : Nat} (hi : i < l.length) {n : Int} {K : D → DSt → Prop} (hK : ∀ S', Own S0 d (l.set i n) S' → K undefD S') :
    ∃ p, idxSl 1 d (.int .i64 (i : Int)) = some p ∧ storeD S 1 p (.int .i64 n) K := by
  rcases h with ⟨rfl, rfl, rfl⟩ | ⟨k, acs, ex, h, rfl, rfl⟩
  · simp at hi
  · refine ⟨_, idxR hi, ?_⟩
    rw [Nat.zero_add]
    refine stR (ds := [.int .i64 n]) (row := [.int .i64 l[i]]) (DSt.set_same _ _ _) (iC_at (List.getElem?_eq_getElem hi)) (clI _ _) ⟨rfl, by decide, by simp⟩ fun acs' => ?_
    rw [DSt.set_set]
    refine hK _ (.inr ⟨k, acs', ex, h, by simp, ?_⟩)
    have e : setManyD [D.int .i64 l[i]] 0 [.int .i64 n] = [.int .i64 n] := rfl
    rw [e]
    congr 2
    simp only [iC]
    rw [ones_set, ← List.map_set]
/-- Numbers that can be read where they stand. -/
def RdI (S : DSt) (d : D) (l : List Int) : Prop := lenSl d = some (.int .i64 (l.length : Int)) ∧ ∀ (i : Nat) (v : Int), l[i]? = some v → ∃ p, idxSl 1 d (.int .i64 (i : Int)) = some p ∧ loadSc S p = some (.int .i64 v)
theorem rdI_lst (S : DSt) (l : List Int) : RdI S (iD l) l := ⟨iD_len l, fun i v h => ⟨_, iD_at h, rfl⟩⟩
theorem Own.rd {S0 S S' : DSt} {d : D} {l : List Int} (h : Own S0 d l S) (hle : S.le S') : RdI S' d l := by
  refine ⟨own_len h, fun i v hv => ?_⟩
  rcases h with ⟨rfl, rfl, rfl⟩ | ⟨k, acs, ex, h, rfl, rfl⟩
  · simp at hv
  · have hi := (List.getElem?_eq_some_iff.1 hv).1
    refine ⟨_, idxR hi, ?_⟩
    rw [Nat.zero_add, ldR (hle _ _ (DSt.set_same _ _ _)) (iC_at hv)]
    rfl
theorem sameInts_rd {a b : List Int} (hl : a.length < 2 ^ 60) (hb : b.length < 2 ^ 60) {x : Bool} {S : DSt} {da db : D} (ra : RdI S da a) (rb : RdI S db b) : DFn Try.prog E w0 x f_kit_SameInts [da, db] S fun d' S' => d' = .bool (decide (a = b)) ∧ S' = S := by
  refine V_kit_SameInts_ok ?_
  unfold V_kit_SameInts
  simp only [ra.1, rb.1, oD, biNe]
  rw [bneD, cdI]
  refine ⟨fun h => ?_, fun h => ?_⟩
  · rw [decide_eq_false (fun e => h (by rw [e]))]
    exact FinD.pure
  have h : a.length = b.length := by omega
  refine loop_kit_SameInts_0 (I := fun n x0 x1 x5 S' => S = S' ∧ x0 = da ∧ x1 = db ∧ ∃ i : Nat, x5 = .int .i64 (i : Int) ∧ i + n = a.length ∧ a.take i = b.take i) ?_ (n := a.length) ⟨rfl, rfl, rfl, 0, rfl, by omega, rfl⟩
  rintro n _ _ _ _ ⟨rfl, rfl, rfl, i, rfl, hi, ht⟩
  unfold B_kit_SameInts_0
  simp only [ra.1, oD, biLt]
  rw [cdI]
  refine ⟨fun hlt => ?_, fun hge => ?_⟩
  · have hlt : i < a.length := by omega
    have ea : a[i]? = some a[i] := List.getElem?_eq_getElem hlt
    have eb : b[i]? = some b[i] := List.getElem?_eq_getElem (by omega)
    obtain ⟨p, p1, p2⟩ := ra.2 i _ ea
    obtain ⟨q, q1, q2⟩ := rb.2 i _ eb
    simp only [p1, p2, q1, q2, oD, biNe]
    refine ⟨by trivial, by trivial, ?_⟩
    rw [bneD, cdI]
    refine ⟨fun hne => ?_, fun he => ?_⟩
    · rw [decide_eq_false (fun e => hne (by simp only [e]))]
      exact FinD.pure
    · rw [biAdd, oD, wrap_i64 (by omega) (by omega)]
      refine ⟨n - 1, by omega, by trivial, by trivial, by trivial, i + 1, rfl, by omega, ?_⟩
      rw [List.take_add_one, List.take_add_one, ht, ea, eb, Classical.not_not.1 he]
  · rw [List.take_of_length_le (by omega), List.take_of_length_le (by omega)] at ht
    rw [decide_eq_true ht]
    exact FinD.pure
end
end Go.Proofs.Ytcboaonbfgjmgaa.d
end

section
open Go.Proofs Go Go.Am Go.Op
namespace Go.Proofs.Ytcboaonbfgjmgaa.d
set_option linter.unusedVariables false
set_option linter.unusedSimpArgs false
set_option maxRecDepth 100000
theorem Mo.Small.fits {m : Mo} (hm : m.Ok) (h : m.Small 10000) : m.Fits :=
  ⟨hm, by have := h.types; omega, by have := h.texts; omega, by have := h.funcs; omega, fun t ht => by have := h.fields t ht; omega, fun r hr => by have := h.params r hr; omega⟩
section
variable {E : Env} {w0 : World} {S B : DSt} {c d : D} {y : In} {m : Mo} {k0 k1 k5 k6 : Nat} {a0 a1 a5 a6 : List AV}
/-- What is behind the comparisons. -/
structure Held (B : DSt) (y : In) (m : Mo) (k0 k1 k5 k6 : Nat) : Prop where
  h0 : ∃ a, B k0 = some ⟨4, [inC y], a⟩
  h1 : ∃ a, B k1 = some ⟨3, [moC m], a⟩
  h5 : ∃ a, B k5 = some ⟨4, [inXC y], a⟩
  h6 : ∃ a, B k6 = some ⟨3, [moXC m], a⟩
theorem law_loop1 (hy : y.Ok) (hm : m.Ok) (H : Held B y m k0 k1 k5 k6) {lc ld : List Int} {S6 : DSt} (g : Two B c lc d ld S6) (hl : ld.length < 2 ^ 50) :
    CodeD Try.prog E w0 false (.loop L_law12_OpsTakes_1) (mkRow 87 [2, 3, 5, 6, 11, 14] [.ptr k0 0, .ptr k1 0, .ptr k5 0, .ptr k6 0, d, (.int .i64 0)]) S6 (K_law12_OpsTakes_1 E w0 false (FinD E fun v _ => v = .bool true)) := by
  refine loop_law12_OpsTakes_1 (I := fun n x2 x3 x5 x6 x11 x14 S' => x2 = .ptr k0 0 ∧ x3 = .ptr k1 0 ∧ x5 = .ptr k5 0 ∧ x6 = .ptr k6 0 ∧ d = x11 ∧ ∃ (i : Nat) (ld' : List Int), x14 = .int .i64 (i : Int) ∧ i + n = ld.length ∧ ld'.length = ld.length ∧ Two B c lc d ld' S') ?_ (n := ld.length) ⟨rfl, rfl, rfl, rfl, rfl, 0, ld, rfl, by omega, rfl, g⟩
  rintro n _ _ _ _ _ _ S' ⟨rfl, rfl, rfl, rfl, rfl, i, ld', rfl, hi, hl', g⟩
  unfold B_law12_OpsTakes_1
  obtain ⟨S1, g1, g2⟩ := g
  rw [own_len g2, oD, biLt, oD, cdI]
  refine ⟨fun hlt => ?_, fun hge => ?_⟩
  · obtain ⟨p, p1, p2⟩ := own_set (i := i) (n := -9) g2 (by omega) (K := fun v65 S66 => optW (binI .add (.int .i64 (i : Int)) (.int .i64 1)) fun v67 => ∃ m_1, m_1 < n ∧ D.ptr k0 0 = .ptr k0 0 ∧ D.ptr k1 0 = .ptr k1 0 ∧ D.ptr k5 0 = .ptr k5 0 ∧ D.ptr k6 0 = .ptr k6 0 ∧ d = d ∧ ∃ (i : Nat) (ld' : List Int), v67 = .int .i64 (i : Int) ∧ i + m_1 = ld.length ∧ ld'.length = ld.length ∧ Two B c lc d ld' S66) fun S'' g3 => by
        rw [biAdd, oD, wrap_i64 (by omega) (by omega)]
        exact ⟨n - 1, by omega, rfl, rfl, rfl, rfl, rfl, i + 1, _, rfl, by omega, by simpa using hl', S1, g1, g3⟩
    rw [p1, oD]
    exact p2
  · have l : B.le S' := DSt.le_trans g1.le g2.le
    obtain ⟨b0, h0⟩ := H.h0
    obtain ⟨b1, h1⟩ := H.h1
    obtain ⟨b5, h5⟩ := H.h5
    obtain ⟨b6, h6⟩ := H.h6
    rw [laP (l _ _ h5) (by simp [inXC]), oD, laP (l _ _ h0) (by simp [inC]), oD]
    change DFn Try.prog E w0 false f_kit_KeptInstr [inX y, inD y] S' _
    refine (kit_KeptInstr_ok hy).use ?_
    simp only [wdB, t4, vdT, laP (l _ _ h6) (show 0 < 3 ∧ 0 + 3 ≤ (moXC m).length by simp [moXC]), laP (l _ _ h1) (show 0 < 3 ∧ 0 + 3 ≤ (moC m).length by simp [moC]), oD, gdT]
    change DFn Try.prog E w0 false f_kit_KeptModule [moX m, moD m] S' _
    refine (kit_KeptModule_ok hm).use ?_
    simp only [pdB, if_true, oD, wdB, t4, gdT]
    refine works_ok.use ?_
    exact FinD.here rfl
theorem law_loop0 (hy : y.Ok) (hm : m.Ok) (H : Held B y m k0 k1 k5 k6) {lc ld : List Int} {S6 : DSt} (g : Two B c lc d ld S6) (hl : lc.length < 2 ^ 50) (hl2 : ld.length < 2 ^ 50) :
    CodeD Try.prog E w0 false (.loop L_law12_OpsTakes_0) (mkRow 87 [2, 3, 5, 6, 10, 11, 13] [.ptr k0 0, .ptr k1 0, .ptr k5 0, .ptr k6 0, c, d, (.int .i64 0)]) S6 (K_law12_OpsTakes_0 E w0 false (FinD E fun v _ => v = .bool true)) := by
  refine loop_law12_OpsTakes_0 (I := fun n x2 x3 x5 x6 x10 x11 x13 S' => x2 = .ptr k0 0 ∧ x3 = .ptr k1 0 ∧ x5 = .ptr k5 0 ∧ x6 = .ptr k6 0 ∧ c = x10 ∧ d = x11 ∧ ∃ (i : Nat) (lc' : List Int), x13 = .int .i64 (i : Int) ∧ i + n = lc.length ∧ lc'.length = lc.length ∧ Two B c lc' d ld S') ?_ (n := lc.length) ⟨rfl, rfl, rfl, rfl, rfl, rfl, 0, lc, rfl, by omega, rfl, g⟩
  rintro n _ _ _ _ _ _ _ S' ⟨rfl, rfl, rfl, rfl, rfl, rfl, i, lc', rfl, hi, hl', g⟩
  unfold B_law12_OpsTakes_0
  have gg := g
  obtain ⟨S1, g1, g2⟩ := g
  obtain ⟨S2, q1, q2⟩ := g1.swap g2
  rw [own_len q2, oD, biLt, oD, cdI]
  refine ⟨fun hlt => ?_, fun hge => law_loop1 hy hm H gg hl2⟩
  obtain ⟨p, p1, p2⟩ := own_set (i := i) (n := -9) q2 (by omega) (K := fun v65 S66 => optW (binI .add (.int .i64 (i : Int)) (.int .i64 1)) fun v67 => ∃ m_1, m_1 < n ∧ D.ptr k0 0 = .ptr k0 0 ∧ D.ptr k1 0 = .ptr k1 0 ∧ D.ptr k5 0 = .ptr k5 0 ∧ D.ptr k6 0 = .ptr k6 0 ∧ c = c ∧ d = d ∧ ∃ (i : Nat) (lc' : List Int), v67 = .int .i64 (i : Int) ∧ i + m_1 = lc.length ∧ lc'.length = lc.length ∧ Two B c lc' d ld S66) fun S'' g3 => by
      rw [biAdd, oD, wrap_i64 (by omega) (by omega)]
      obtain ⟨S3, r1, r2⟩ := q1.swap g3
      exact ⟨n - 1, by omega, rfl, rfl, rfl, rfl, rfl, rfl, i + 1, _, rfl, by omega, by simpa using hl', S3, r1, r2⟩
  rw [p1, oD]
  exact p2
end
end Go.Proofs.Ytcboaonbfgjmgaa.d
end

section
open Go.Proofs Go Go.Am Go.Op
namespace Go.Proofs.Ytcboaonbfgjmgaa.d
set_option linter.unusedVariables false
set_option linter.unusedSimpArgs false
set_option maxRecDepth 100000
section
variable {E : Env} {w0 : World}
theorem takes_law {y : In} {m : Mo} (hy : y.Ok) (hm : m.Ok) (hlen : m.Fits → (takesS y m).1.length < 2 ^ 50 ∧ (takesS y m).2.1.length < 2 ^ 50) {S : DSt} : DFn Try.prog E w0 false f_law12_OpsTakes [inD y, moD m] S fun v _ => v = .bool true := by
  refine V_law12_OpsTakes_ok ?_
  unfold V_law12_OpsTakes
  rw [inD, clA, oD]
  intro k a n
  rw [moD, clA, oD]
  intro k2 a2 n2
  obtain ⟨ne2, n2'⟩ := DSt.fresh n2
  generalize hS3 : (S.set k _).set k2 _ = S3
  have h2 : S3 k2 = some ⟨3, [moC m], a2⟩ := by rw [← hS3]; exact DSt.set_same _ _ _
  have h0 : S3 k = some ⟨4, [inC y], a⟩ := by rw [← hS3, DSt.set_ne _ _ _ (Ne.symm ne2)]; exact DSt.set_same _ _ _
  clear hS3 n2
  have hsh := hy.short
  have lm : loadAg S3 3 (.ptr k2 0) = some (moD m) := by rw [laP h2 (by simp [moC])]; rfl
  have li : loadAg S3 4 (.ptr k 0) = some (inD y) := by rw [laP h0 (by simp [inC])]; rfl
  simp only [ofP, oD, Nat.zero_add, ldP h0, show (inC y)[3]? = some (armD y.arms) from rfl, armD_len, biGt]
  have wk : ∀ S', DFn Try.prog E w0 false f_law12_works [] S' fun v13 S14 => FinD E (fun v _ => v = .bool true) v13 S14 := fun S' => works_ok.use (FinD.here rfl)
  by_cases c1 : (y.arms.length : Int) > 1000
  · rw [decide_eq_true c1]
    simp only [wdB, t1, vdF, gdF, oD, pdB, if_true, cdT]
    exact wk _
  rw [decide_eq_false c1]
  simp only [wdB, t2, vdT, gdT, lm, oD]
  refine (kit_Bulk_ok hm (N := 10000) (by decide)).use ?_
  rintro v S' ⟨rfl, b, rfl, hb⟩
  simp only [biGt, oD, pdB, Bool.false_eq_true, if_false]
  rw [cdI]
  refine ⟨fun _ => wk _, fun hsm => ?_⟩
  have hf := Mo.Small.fits hm (hb (by simpa using hsm))
  obtain ⟨hl1, hl2⟩ := hlen hf
  rw [li, oD]
  refine (kit_LentInstr_ok (by omega)).use ?_
  intro k5 a5 n5
  refine stP (ds := inXC y) (DSt.set_same _ _ _) (clA _) ⟨rfl, by decide, by simp [inXC]⟩ fun a5' => ?_
  rw [DSt.set_set]
  have d0 : k ≠ k5 := fun e => by rw [← e, h0] at n5; cases n5
  have d2 : k2 ≠ k5 := fun e => by rw [← e, h2] at n5; cases n5
  rw [laP (by rw [DSt.set_ne _ _ _ d2]; exact h2) (by simp [moC]), oD]
  refine (show DFn Try.prog E w0 false f_kit_LentModule [moD m] _ _ from (kit_LentModule_ok hf).use ?_)
  intro k6 a6 n6
  obtain ⟨ne6, n6'⟩ := DSt.fresh n6
  refine stP (ds := moXC m) (DSt.set_same _ _ _) (clA _) ⟨rfl, by decide, by simp [moXC]⟩ fun a6' => ?_
  rw [DSt.set_set]
  generalize hB : (S'.set k5 _).set k6 _ = B
  have e0 : k ≠ k6 := fun e => by rw [← e, h0] at n6'; cases n6'
  have e2 : k2 ≠ k6 := fun e => by rw [← e, h2] at n6'; cases n6'
  have B0 : B k = some ⟨4, [inC y], a⟩ := by rw [← hB, DSt.set_ne _ _ _ e0, DSt.set_ne _ _ _ d0]; exact h0
  have B2 : B k2 = some ⟨3, [moC m], a2⟩ := by rw [← hB, DSt.set_ne _ _ _ e2, DSt.set_ne _ _ _ d2]; exact h2
  have B6 : B k6 = some ⟨3, [moXC m], a6'⟩ := by rw [← hB]; exact DSt.set_same _ _ _
  have B5 : B k5 = some ⟨4, [inXC y], a5'⟩ := by rw [← hB, DSt.set_ne _ _ _ (Ne.symm ne6)]; exact DSt.set_same _ _ _
  clear hB
  rw [laP B0 (by simp [inC]), oD, laP B2 (by simp [moC]), oD]
  change DFn Try.prog E w0 false f_ref12_Takes [inD y, moD m] B _
  refine (ref12_Takes_ok hy hf).use ?_
  simp only [tk3, exD, List.getElem?_cons_zero, List.getElem?_cons_succ, oD]
  rw [laP B5 (by simp [inXC]), oD, laP B6 (by simp [moXC]), oD]
  change DFn Try.prog E w0 false f_ops_Takes [inX y, moX m] B _
  refine (ops_Takes_ok hy hf).use ?_
  rintro v S6 ⟨p, q, rfl, g⟩
  have gg := g
  obtain ⟨S7, g1, g2⟩ := g
  simp only [exD, List.getElem?_cons_zero, List.getElem?_cons_succ, oD]
  refine (sameInts_rd (by omega) (by omega) (g1.rd g2.le) (rdI_lst _ _)).use ?_
  rintro v S' ⟨rfl, rfl⟩
  rw [decide_eq_true rfl]
  simp only [unN, Bool.not_true, oD, wdB, t2, vdT, gdT]
  refine (sameInts_rd (by omega) (by omega) (g2.rd (DSt.le_refl _)) (rdI_lst _ _)).use ?_
  rintro v S' ⟨rfl, rfl⟩
  rw [decide_eq_true rfl]
  simp only [unN, Bool.not_true, oD, pdB, Bool.false_eq_true, if_false, wdB, t2, vdT, biNe, bne_self_eq_false, cdF]
  exact law_loop0 hy hm ⟨⟨_, B0⟩, ⟨_, B2⟩, ⟨_, B5⟩, ⟨_, B6⟩⟩ gg hl1 hl2
end
end Go.Proofs.Ytcboaonbfgjmgaa.d
end

section
open Go.Proofs Go Go.Am Go.Op
namespace Go.Proofs.Ytcboaonbfgjmgaa.d
set_option linter.unusedVariables false
set_option linter.unusedSimpArgs false
set_option maxRecDepth 100000
theorem typed_len {m : Mo} (hm : m.Fits) (n : Int) (ks : List Int) : (typedS m n ks).1.fields.length < 2 ^ 30 := by
  unfold typedS
  split
  · rename_i t e
    obtain ⟨_, e1, e2⟩ := tyOf_some e
    exact hm.fields _ (List.mem_of_getElem? e1)
  · decide
theorem made_len {y : In} {m : Mo} (hm : m.Fits) : (madeS y m).1.length < 2 ^ 50 ∧ (madeS y m).2.1.length < 2 ^ 50 := by
  have := typed_len hm y.a [6]
  unfold madeS
  split
  · simp only
    split
    · simp; omega
    · split
      · split <;> simp
      · simp
  · repeat' split
    all_goals simp
def ShortP (r : List Int × List Int) : Prop := r.1.length < 2 ^ 50 ∧ r.2.length < 2 ^ 50
theorem short_ite {c : Prop} [Decidable c] {a b : List Int × List Int} (ha : ShortP a) (hb : ShortP b) : ShortP (if c then a else b) := by
  by_cases h : c
  · rw [if_pos h]; exact ha
  · rw [if_neg h]; exact hb
theorem plain_len (y : In) : (plainS y).1.length < 2 ^ 50 ∧ (plainS y).2.length < 2 ^ 50 := by
  show ShortP (plainS y)
  unfold plainS
  repeat' apply short_ite
  all_goals (unfold ShortP; simp)
theorem takes_len {y : In} {m : Mo} (hm : m.Fits) : (takesS y m).1.length < 2 ^ 50 ∧ (takesS y m).2.1.length < 2 ^ 50 := by
  obtain ⟨p1, p2⟩ := plain_len y
  obtain ⟨q1, q2⟩ := made_len (y := y) hm
  unfold takesS
  split
  · simp
  split
  · simp
  split
  · split
    · rename_i r e
      obtain ⟨h1, h2, _⟩ := hm.params r (List.mem_of_getElem? e)
      exact ⟨by show r.params.length < _; omega, by show r.results.length < _; omega⟩
    · simp
  split
  · split
    · exact ⟨q1, q2⟩
    · simp
  · exact ⟨p1, p2⟩
theorem takes_true {E : Env} {w0 : World} {y : In} {m : Mo} (hy : y.Ok) (hm : m.Ok) {S : DSt} : DFn Try.prog E w0 false f_law12_OpsTakes [inD y, moD m] S fun v _ => v = .bool true := takes_law hy hm fun h => takes_len h
end Go.Proofs.Ytcboaonbfgjmgaa.d
end

section
open Go Go.Am
namespace Go.Am.Old
open Go.ChangeShapes Go.WideShapes Go.ChangeAt Go.RowKit
set_option linter.unusedVariables false
set_option linter.unusedSimpArgs false
set_option maxRecDepth 100000
section
variable {H : Type} {enc : TypeId × Value → H} {P : Program} {W : World} {b0 : Nat} {sp : Nat → Bool} {hd : Bool}
theorem trod_int {n : Nat} {t : TypeId} {k : IntKind} {cs : List Value} {x : DataW H × List MemPlace} (ht : P.underlying t = some (.int k)) (h : DataW.trod enc P W b0 sp hd n t cs = some x) : ∃ z, cs = [.int k z] ∧ (Lit.int k z).wf = true := by
  cases n with
  | zero => simp [DataW.trod] at h
  | succ n =>
    simp only [DataW.trod, ht] at h
    split at h
    all_goals (first | (cases h; done) | skip)
    all_goals simp_all
    all_goals (first | (obtain ⟨⟨rfl, h2⟩, _⟩ := h; exact ⟨_, ⟨rfl, rfl⟩, h2⟩) | skip)
end
theorem mapM_get {α β : Type} {f : α → Option β} : ∀ {l : List α} {r : List β}, l.mapM f = some r → ∀ (i : Nat) (x : α), l[i]? = some x → ∃ y, r[i]? = some y ∧ f x = some y
  | [], r, h, i, x, hx => by simp at hx
  | a :: l, r, h, i, x, hx => by
    simp only [List.mapM_cons, Option.bind_eq_bind, Option.bind_eq_some_iff] at h
    obtain ⟨b, hb, bs, hbs, h⟩ := h
    cases h
    cases i with
    | zero => simp at hx; subst hx; exact ⟨b, rfl, hb⟩
    | succ i =>
      have hx' : l[i]? = some x := by simpa using hx
      obtain ⟨y, h1, h2⟩ := mapM_get hbs i x hx'
      exact ⟨y, by simpa using h1, h2⟩
theorem mapM_length {α β : Type} {f : α → Option β} : ∀ {l : List α} {r : List β}, l.mapM f = some r → r.length = l.length
  | [], r, h => by simp at h; subst h; rfl
  | a :: l, r, h => by
    simp only [List.mapM_cons, Option.bind_eq_bind, Option.bind_eq_some_iff] at h
    obtain ⟨b, hb, bs, hbs, h⟩ := h
    cases h
    simp [mapM_length hbs]
theorem weightsAll_mem {H : Type} {P : Program} {e : TypeId} : ∀ {l : List (DataW H)} {d : DataW H}, d ∈ l → ∀ n ∈ DataW.weights P e d, n ∈ DataW.weightsAll P e l
  | a :: l, d, h, n, hn => by
    simp only [DataW.weightsAll]
    rcases List.mem_cons.1 h with rfl | h
    · exact List.mem_append_left _ hn
    · exact List.mem_append_right _ (weightsAll_mem h n hn)
/-- A slice of things of a size: its cells. -/
theorem slice_cells {H : Type} {enc : TypeId × Value → H} {P : Program} {W : World} {hd : Bool} {n : Nat} {t e : TypeId} {sz : Nat} {cs : List Value} {x : DataW H × List MemPlace} (ht : P.underlying t = some (.slice e)) (hc : P.cellsOf e = sz) (hsz : 0 < sz)
    (h : DataW.trod enc P W 0 (fun _ => true) hd n t cs = some x) : ∃ c, cs = [c] ∧ ((old1 c = .nilSlc) ∨ ∃ (b i len cap m : Nat) (els : List (DataW H × List MemPlace)), old1 c = .slc (.old b) i len cap true 1 ∧ len ≤ cap ∧ els.length = len ∧ (∀ d ∈ els, ∀ k ∈ DataW.weights P e d.1, k ∈ DataW.weights P t x.1) ∧
      (∀ k : Nat, len * P.bytesOf e ≤ k ∨ k ∈ DataW.weights P t x.1 ∨ True) ∧ (∃ k ∈ DataW.weights P t x.1, len * P.bytesOf e ≤ k) ∧
      ∀ j d, els[j]? = some d → ∃ (all : List AV) (vs : List Value), envOf W b = some all ∧ (all.drop (i + j * sz)).take sz = vs.map old1 ∧ DataW.trod enc P W 0 (fun _ => true) hd m e vs = some d) := by
  rcases DataW.trod_slice ht h with ⟨e1, _⟩ | ⟨a, len, cap, elems, rest, m, _, e1, hx, _, hl, hm, hlen, hel, hsp, _⟩
  · exact ⟨_, e1, .inl rfl⟩
  · refine ⟨_, e1, .inr ?_⟩
    have hd' : x.1 = .slice (elems.map (·.1)) (rest.map (·.1)) := by rw [hx]
    have hcell : ∀ {c : Addr} {cs : List Value}, W.cells? 0 c sz = some cs → cs.length = sz ∧ ∀ j, j < sz → ∃ x, cs[j]? = some x ∧ W.cell? (c.add j) = some x := by
      intro c cs hc
      unfold World.cells? at hc
      rw [if_pos (Nat.zero_le _)] at hc
      refine ⟨by have := mapM_length hc; simpa using this, fun j hj => ?_⟩
      obtain ⟨y, h1, h2⟩ := mapM_get hc j j (by rw [List.getElem?_range hj])
      exact ⟨y, h1, h2⟩
    have hs : cap = 0 ∨ a.spot = none := by
      by_cases h0 : cap = 0
      · exact .inl h0
      · right
        by_cases hl0 : len = 0
        · obtain ⟨r1, r2⟩ := hsp rfl
          have := r2 0 (by omega)
          rw [hc, hl0, List.getElem?_eq_getElem (by omega)] at this
          obtain ⟨cs, h1, _⟩ := Option.bind_eq_some_iff.1 this
          obtain ⟨x, _, h2⟩ := (hcell h1).2 0 hsz
          simp only [Nat.add_zero, Nat.zero_mul] at h2
          exact (spot_of_cell h2).1
        · have := hel 0 (by omega)
          rw [hc, List.getElem?_eq_getElem (by omega)] at this
          obtain ⟨cs, h1, _⟩ := Option.bind_eq_some_iff.1 this
          obtain ⟨x, _, h2⟩ := (hcell h1).2 0 hsz
          simp only [Nat.add_zero, Nat.zero_mul] at h2
          exact (spot_of_cell h2).1
    refine ⟨a.block, a.off, len, cap, m, elems, ?_, by omega, hlen, ?_, fun _ => .inr (.inr trivial), ⟨(elems.length + rest.length) * P.bytesOf e, ?_, ?_⟩, ?_⟩
    · simp only [old1]
      rw [if_pos ⟨hl, hs⟩]
    · intro d hdm k hk
      rw [hd']
      simp only [DataW.weights, ht]
      exact List.mem_cons_of_mem _ (List.mem_append_left _ (weightsAll_mem (d := d.1) (List.mem_map.2 ⟨d, hdm, rfl⟩) k hk))
    · rw [hd']; simp [DataW.weights, ht]
    · rw [hlen]; exact Nat.mul_le_mul_right _ (by omega)
    · intro i d hid
      have hi : i < len := by have := (List.getElem?_eq_some_iff.1 hid).1; omega
      have hi' := hel i hi
      rw [hc, hid] at hi'
      obtain ⟨cs, h1, h2⟩ := Option.bind_eq_some_iff.1 hi'
      obtain ⟨c1, c2⟩ := hcell h1
      have hs' : a.spot = none := hs.resolve_left (by omega)
      have hadd : ∀ j, (a.add (i * sz)).add j = ⟨a.block, a.off + i * sz + j, none⟩ := by
        intro j
        obtain ⟨b, of, s⟩ := a
        simp only at hs'
        subst hs'
        unfold Addr.add
        split <;> split <;> simp_all
      obtain ⟨x0, _, hx0⟩ := c2 0 hsz
      rw [hadd] at hx0
      obtain ⟨_, arr, el, fr, hb, _⟩ := spot_of_cell hx0
      simp only at hb
      refine ⟨arr.toList.map old1, cs, by unfold envOf; rw [hb], ?_, h2⟩
      refine List.ext_getElem? fun j => ?_
      rw [List.getElem?_take]
      split
      · rename_i hj
        obtain ⟨xj, hj1, hj2⟩ := c2 j hj
        rw [hadd] at hj2
        obtain ⟨_, arr', el', fr', hb', hj3⟩ := spot_of_cell hj2
        simp only at hb' hj3
        rw [hb] at hb'
        cases hb'
        rw [List.getElem?_drop, List.getElem?_map, Array.getElem?_toList, hj3, List.getElem?_map, hj1]
      · rename_i hj
        rw [List.getElem?_map, List.getElem?_eq_none (by omega)]
        rfl
theorem wf_i64 {z : Int} (h : (Lit.int .i64 z).wf = true) : -9223372036854775808 ≤ z ∧ z ≤ 9223372036854775807 := by
  simp only [Lit.wf, Bool.and_eq_true, decide_eq_true_eq] at h
  have h1 : IntKind.i64.min = -9223372036854775808 := rfl
  have h2 : IntKind.i64.max = 9223372036854775807 := rfl
  omega
theorem wf_u8 {z : Int} (h : (Lit.int .u8 z).wf = true) : 0 ≤ z ∧ z ≤ 255 := by
  simp only [Lit.wf, Bool.and_eq_true, decide_eq_true_eq] at h
  have h1 : IntKind.u8.min = 0 := rfl
  have h2 : IntKind.u8.max = 255 := rfl
  omega
section
variable {H : Type} {enc : TypeId × Value → H} {P : Program} {W : World} {hd : Bool}
/-- A slice of the caller's is a list. -/
theorem rp_slice {α : Type} [Inhabited α] {row : α → List D} {Good : α → Prop} {n : Nat} {t e : TypeId} {sz : Nat} {cs : List Value} {x : DataW H × List MemPlace} (ht : P.underlying t = some (.slice e)) (hc : P.cellsOf e = sz) (hsz : 0 < sz) (hrow : ∀ a, (row a).length = sz)
    (h : DataW.trod enc P W 0 (fun _ => true) hd n t cs = some x)
    (f : ∀ m vs d, DataW.trod enc P W 0 (fun _ => true) hd m e vs = some d → (∀ k ∈ DataW.weights P e d.1, k ∈ DataW.weights P t x.1) → ∃ a, Good a ∧ (∀ R, RpL (envOf W) R (row a) (vs.map old1)) ∧ (vs.map old1).all scalar = true) :
    ∃ c l, cs = [c] ∧ (∀ a ∈ l, Good a) ∧ (∀ R, Rp (envOf W) R (.lst (l.map row) sz) (old1 c)) ∧ scalar (old1 c) = true ∧ (l = [] ∨ ∃ k ∈ DataW.weights P t x.1, l.length * P.bytesOf e ≤ k) := by
  obtain ⟨c, e0, h1 | ⟨b, i, len, cap, m, els, h1, hlc, h2, h3, _, hk, h6⟩⟩ := slice_cells ht hc hsz h
  · exact ⟨c, [], e0, by simp, fun R => by rw [h1]; simp only [Rp]; exact .inl ⟨by trivial, by trivial⟩, by rw [h1]; rfl, .inl rfl⟩
  · have each : ∀ j, ∃ a : α, j < len → Good a ∧ ∃ all, envOf W b = some all ∧ (∀ R, RpL (envOf W) R (row a) ((all.drop (i + j * sz)).take sz)) ∧ ((all.drop (i + j * sz)).take sz).all scalar = true := by
      intro j
      by_cases hj : j < len
      · obtain ⟨all, vs, g1, g2, g3⟩ := h6 j _ (List.getElem?_eq_getElem (by omega : j < els.length))
        obtain ⟨a, q1, q2, q3⟩ := f m vs _ g3 (h3 _ (List.getElem_mem _))
        exact ⟨a, fun _ => ⟨q1, all, g1, by rw [g2]; exact q2, by rw [g2]; exact q3⟩⟩
      · exact ⟨default, fun h => (hj h).elim⟩
    obtain ⟨g, hg⟩ := Classical.axiomOfChoice each
    have main : ∀ (all : List AV), envOf W b = some all → ∀ N, N ≤ len → (∀ R, RpLL (envOf W) R (((List.range N).map g).map row) ((all.drop i).take (N * sz))) ∧ ((all.drop i).take (N * sz)).all scalar = true := by
      intro all hall N
      induction N with
      | zero => intro _; exact ⟨fun R => by simp [RpLL], by simp⟩
      | succ N ih =>
        intro hN
        obtain ⟨i1, i2⟩ := ih (by omega)
        obtain ⟨_, all', g1, g2, g3⟩ := hg N (by omega)
        rw [hall] at g1
        cases g1
        have e1 : (all.drop i).take ((N + 1) * sz) = (all.drop i).take (N * sz) ++ (all.drop (i + N * sz)).take sz := by
          rw [Nat.succ_mul, List.take_add, List.drop_drop]
        rw [e1]
        refine ⟨fun R => ?_, by rw [List.all_append, i2, g3]; rfl⟩
        rw [List.range_succ, List.map_append, List.map_append, rpLL_iff, List.flatten_append]
        refine (rpLL_iff.1 (i1 R)).append ?_
        simpa using g2 R
    refine ⟨c, (List.range len).map g, e0, fun a ha => ?_, fun R => ?_, by rw [h1]; rfl, .inr ?_⟩
    · obtain ⟨j, hj, rfl⟩ := List.mem_map.1 ha
      exact (hg j (List.mem_range.1 hj)).1
    · rw [h1]
      simp only [Rp]
      refine .inr ⟨.old b, i, cap, true, 1, by simp, trivial, by simpa using hlc, ?_, ?_⟩
      · intro r hr
        obtain ⟨a, _, rfl⟩ := List.mem_map.1 hr
        exact hrow a
      · by_cases h0 : len = 0
        · left; subst h0; rfl
        · right
          obtain ⟨_, all, g1, _⟩ := hg 0 (by omega)
          obtain ⟨m1, m2⟩ := main all g1 len (Nat.le_refl _)
          exact ⟨all, g1, by simpa using m1 R, by simpa using m2⟩
    · obtain ⟨k, hk1, hk2⟩ := hk
      exact ⟨k, hk1, by simpa using hk2⟩
end
section
variable {H : Type} {enc : TypeId × Value → H} {P : Program} {W : World} {hd : Bool}
theorem rd_int {n : Nat} {t : TypeId} {k : IntKind} {cs : List Value} {x : DataW H × List MemPlace} (ht : P.underlying t = some (.int k)) (h : DataW.trod enc P W 0 (fun _ => true) hd n t cs = some x) :
    ∃ z : Int, (Lit.int k z).wf = true ∧ (∀ R, RpL (envOf W) R [.int k z] (cs.map old1)) ∧ (cs.map old1).all scalar = true := by
  obtain ⟨z, rfl, w⟩ := trod_int ht h
  refine ⟨z, w, fun R => ?_, rfl⟩
  simp only [List.map_cons, List.map_nil, RpL, Rp]
  exact ⟨_, _, rfl, rfl, rfl⟩
end
section
variable {H : Type} {enc : TypeId × Value → H} {P : Program} {W : World} {hd : Bool}
end
end Go.Am.Old
end

section
open Go Go.Am
namespace Go.Am.Old
open Go.ChangeShapes Go.WideShapes Go.ChangeAt Go.RowKit
set_option linter.unusedVariables false
set_option linter.unusedSimpArgs false
set_option maxRecDepth 100000
/-- A type's values are read as rows of plain ones. -/
def Rd {H : Type} (enc : TypeId × Value → H) (P : Program) (W : World) (t : TypeId) {α : Type} (row : α → List D) (Good : α → Prop) : Prop :=
  ∀ (hd : Bool) (n : Nat) (cs : List Value) (x : DataW H × List MemPlace), DataW.trod enc P W 0 (fun _ => true) hd n t cs = some x → (∀ k ∈ DataW.weights P t x.1, k ≤ reachBytes) →
    ∃ a, Good a ∧ (∀ R, RpL (envOf W) R (row a) (cs.map old1)) ∧ (cs.map old1).all scalar = true
def sumF (P : Program) : List Field → Nat
  | [] => 0
  | f :: fs => P.cellsOf f.type + sumF P fs
def RdF {H : Type} (enc : TypeId × Value → H) (P : Program) (W : World) (fs : List Field) (o : Nat) {α : Type} (row : α → List D) (Good : α → Prop) : Prop :=
  ∀ (hd : Bool) (n : Nat) (cs : List Value) (ys : List (DataW H × List MemPlace)), (fs.mapM fun f => DataW.trod enc P W 0 (fun _ => true) hd n f.type ((cs.drop f.offset).take (P.cellsOf f.type))) = some ys →
    (∀ k ∈ DataW.weightsEach P (fs.map (·.type)) (ys.map (·.1)), k ≤ reachBytes) →
    ∃ a, Good a ∧ (∀ R, RpL (envOf W) R (row a) (((cs.drop o).take (sumF P fs)).map old1)) ∧ (((cs.drop o).take (sumF P fs)).map old1).all scalar = true
section
variable {H : Type} {enc : TypeId × Value → H} {P : Program} {W : World}
theorem Rd.map {t : TypeId} {α β : Type} {row : α → List D} {Good : α → Prop} {row' : β → List D} {Good' : β → Prop} (h : Rd enc P W t row Good) (g : α → β) (hr : ∀ a, row' (g a) = row a) (hg : ∀ a, Good a → Good' (g a)) : Rd enc P W t row' Good' := fun hd n cs x h1 h2 => by
  obtain ⟨a, a1, a2, a3⟩ := h hd n cs x h1 h2
  exact ⟨g a, hg a a1, fun R => by rw [hr]; exact a2 R, a3⟩
theorem Rd.int {t : TypeId} {k : IntKind} (ht : P.underlying t = some (.int k)) : Rd enc P W t (fun z : Int => [.int k z]) (fun z => (Lit.int k z).wf = true) := fun hd n cs x h _ => rd_int ht h
theorem Rd.i64 {t : TypeId} (ht : P.underlying t = some (.int .i64)) : Rd enc P W t (fun z : Int => [.int .i64 z]) (fun z => -9223372036854775808 ≤ z ∧ z ≤ 9223372036854775807) := (Rd.int ht).map id (fun _ => rfl) fun _ h => wf_i64 h
theorem Rd.u8 {t : TypeId} (ht : P.underlying t = some (.int .u8)) : Rd enc P W t (fun z : Int => [.int .u8 z]) (fun z => 0 ≤ z ∧ z ≤ 255) := (Rd.int ht).map id (fun _ => rfl) fun _ h => wf_u8 h
theorem Rd.bool {t : TypeId} (ht : P.underlying t = some .bool) : Rd enc P W t (fun b : Bool => [.bool b]) (fun _ => True) := fun hd n cs x h _ => by
  cases n with
  | zero => simp [DataW.trod] at h
  | succ n =>
    simp only [DataW.trod, ht] at h
    split at h
    all_goals (first | (cases h; done) | skip)
    all_goals simp_all
    rename_i b
    have : ∃ b' : Bool, (∀ R, RpL (envOf W) R [D.bool b'] [old1 (Value.bool b)]) := ⟨b, fun R => by simp only [RpL, Rp]; exact ⟨_, _, rfl, rfl, rfl⟩⟩
    obtain ⟨b', hb⟩ := this
    refine ⟨?_, rfl⟩
    cases b'
    · exact .inl hb
    · exact .inr hb
theorem Rd.str {t : TypeId} (ht : P.underlying t = some .string) : Rd enc P W t (fun s : List UInt8 => [.str s]) (fun s => s.length < 2 ^ 47) := fun hd n cs x h hw => by
  cases n with
  | zero => simp [DataW.trod] at h
  | succ n =>
    simp only [DataW.trod, ht] at h
    split at h
    all_goals (first | (cases h; done) | skip)
    all_goals simp_all
    rename_i s
    obtain ⟨h1, rfl⟩ := h
    have := reachBytes_lt
    refine ⟨s.data.toList, ?_, fun R => ?_, rfl⟩
    · have := hw s.data.toList.length (by simp [DataW.weights])
      omega
    simp only [RpL, Rp]
    exact ⟨_, _, rfl, rfl, rfl⟩
theorem Rd.slice {t e : TypeId} {sz b : Nat} {α : Type} [Inhabited α] {row : α → List D} {Good : α → Prop} (ht : P.underlying t = some (.slice e)) (hc : P.cellsOf e = sz) (hsz : 0 < sz) (hb : P.bytesOf e = b) (hrow : ∀ a, (row a).length = sz) (h : Rd enc P W e row Good) :
    Rd enc P W t (fun l : List α => [.lst (l.map row) sz]) (fun l => l.length * b < 2 ^ 47 ∧ ∀ a ∈ l, Good a) := fun hd n cs x hx hw => by
  obtain ⟨c, l, rfl, h1, h2, h3, h4⟩ := rp_slice ht hc hsz hrow hx fun m vs d hd' hk => h hd m vs d hd' fun k hk' => hw k (hk k hk')
  have := reachBytes_lt
  refine ⟨l, ⟨?_, h1⟩, fun R => ?_, by simp [h3]⟩
  · rcases h4 with rfl | ⟨k, k1, k2⟩
    · show 0 * b < 2 ^ 47; omega
    · have := hw k k1
      rw [hb] at k2
      omega
  · simp only [List.map_cons, List.map_nil, RpL]
    exact ⟨_, _, rfl, h2 R, rfl⟩
theorem RdF.nil {o : Nat} : RdF enc P W [] o (fun _ : Unit => []) (fun _ => True) := fun hd n cs ys h _ => ⟨(), trivial, fun R => by simp [sumF, RpL], by simp [sumF]⟩
theorem RdF.cons {f : Field} {fs : List Field} {o s : Nat} {α β : Type} {row1 : α → List D} {G1 : α → Prop} {row2 : β → List D} {G2 : β → Prop} (ho : f.offset = o) (hs : P.cellsOf f.type = s) (h1 : Rd enc P W f.type row1 G1) (h2 : RdF enc P W fs (o + s) row2 G2) :
    RdF enc P W (f :: fs) o (fun p : α × β => row1 p.1 ++ row2 p.2) (fun p => G1 p.1 ∧ G2 p.2) := fun hd n cs ys h hw => by
  simp only [List.mapM_cons, Option.bind_eq_bind, Option.bind_eq_some_iff] at h
  obtain ⟨y, hy, ys', hys, h⟩ := h
  cases h
  simp only [List.map_cons, DataW.weightsEach, List.mem_append] at hw
  obtain ⟨a, a1, a2, a3⟩ := h1 hd n _ y hy fun k hk => hw k (.inl hk)
  obtain ⟨b, b1, b2, b3⟩ := h2 hd n cs ys' hys fun k hk => hw k (.inr hk)
  rw [ho, hs] at a2 a3
  have e : ((cs.drop o).take (sumF P (f :: fs))).map old1 = ((cs.drop o).take s).map old1 ++ ((cs.drop (o + s)).take (sumF P fs)).map old1 := by
    rw [sumF, hs, List.take_add, List.map_append, List.drop_drop]
  exact ⟨(a, b), ⟨a1, b1⟩, fun R => by rw [e]; exact (a2 R).append (b2 R), by rw [e, List.all_append, a3, b3]; rfl⟩
theorem Rd.struct {t : TypeId} {fs : Array Field} {α : Type} {row : α → List D} {G : α → Prop} (ht : P.underlying t = some (.struct fs)) (hc : P.cellsOf t = sumF P fs.toList) (h : RdF enc P W fs.toList 0 row G) : Rd enc P W t row G := fun hd n cs x hx hw => by
  cases n with
  | zero => simp [DataW.trod] at hx
  | succ n =>
    simp only [DataW.trod, ht] at hx
    split at hx
    · rename_i hl
      simp only [Option.map_eq_some_iff] at hx
      obtain ⟨ys, hm, rfl⟩ := hx
      obtain ⟨a, a1, a2, a3⟩ := h hd n cs ys hm (by simpa [DataW.weights, ht] using hw)
      rw [List.drop_zero, ← hc, ← hl, List.take_length] at a2 a3
      exact ⟨a, a1, a2, a3⟩
    · cases hx
end
/-- A struct that a law is handed. -/
theorem Rd.argA {H : Type} {enc : TypeId × Value → H} {P : Program} {W : World} {t : TypeId} {α : Type} {row : α → List D} {G : α → Prop} (h : Rd enc P W t row G) {fs : Array Field} {r : Reach} {b0 : Nat} {v : Value} (hv : Value.okWide P W r b0 t v) (ht : P.underlying t = some (.struct fs))
    {d : DataW H} {ps : List MemPlace} (h0 : DataW.Trod enc P W 0 (fun _ => true) true t v d ps) (hw : ∀ k ∈ DataW.weights P t d, k ≤ reachBytes) : ∃ a, G a ∧ ∀ R, Rp (envOf W) R (.agg (row a)) (oldV v) := by
  obtain ⟨n, hn⟩ := h0
  obtain ⟨cs, rfl, _⟩ := okWide_struct ht hv
  obtain ⟨a, a1, a2, a3⟩ := h true n _ _ hn hw
  refine ⟨a, a1, fun R => ?_⟩
  simp only [oldV, Rp]
  exact ⟨_, rfl, a2 R, a3⟩
theorem conf_empty (E : Env) : Conf E (fun _ => none) DSt.none AHeap.empty := ⟨fun k cs h => (by cases h), fun k o h => (by cases h)⟩
theorem fine_empty : Fine AHeap.empty := by
  have hg : ∀ k, AHeap.empty.get k = none := fun k => by simp [AHeap.empty, AHeap.get, Trie.get]
  exact ⟨fun k _ => hg k, fun k p o op h => (by rw [hg] at h; cases h), fun k o p h => (by rw [hg] at h; cases h), fun k o p h => (by rw [hg] at h; cases h)⟩
/-- FROM A LAW'S RULE TO ITS CALL. -/
theorem calls_lawD {P : Program} {f : FuncId} {W : World} {vs : Array Value} {ds : List D} (h : DFn P (envOf W) W false f ds DSt.none fun v _ => v = .bool true) (ha : RpL (envOf W) (fun _ => none) ds (vs.toList.map oldV)) : Calls P f vs W fun e w => e = .returned (.bool true) ∧ Kept W w := by
  refine calls_law (FnW.mono (h _ AHeap.empty _ fine_empty (conf_empty _) ha) fun v H' hq => ?_)
  obtain ⟨_, R', S', d, _, _, h3, rfl⟩ := hq
  simpa only [Rp] using h3
end Go.Am.Old
end

section
open Go.Proofs Go Go.Am Go.Op Go.Am.Old
namespace Go.Proofs.Ytcboaonbfgjmgaa.d
set_option linter.unusedVariables false
set_option linter.unusedSimpArgs false
set_option maxRecDepth 100000
instance : Inhabited Ty := ⟨⟨0, [], [], 0, 0⟩⟩
instance : Inhabited Ro := ⟨⟨[], [], [], 0, 0, []⟩⟩
section
variable {H : Type} {enc : TypeId × Value → H} {W : World}
abbrev RdP (enc : TypeId × Value → H) (W : World) (t : TypeId) {α : Type} (row : α → List D) (Good : α → Prop) : Prop := Rd enc Try.prog W t row Good
theorem rd_ints : RdP enc W 42 (fun l : List Int => [iD l]) (fun l => l.length < 2 ^ 47 ∧ ∀ n ∈ l, I64 n) :=
  (Rd.slice (sz := 1) Try.underlying42 (by kernel_rfl) (by decide) (b := 8) (by kernel_rfl) (fun _ => rfl) (Rd.i64 Try.underlying3)).map id (fun l => by simp [iD, iC, ones, Function.comp_def]) fun l h => ⟨by have := h.1; simp only [id] at *; omega, h.2⟩
theorem rd_bytes : RdP enc W 27 (fun l : List Int => [bD l]) (fun l => l.length < 2 ^ 47 ∧ ∀ n ∈ l, Byte n) :=
  (Rd.slice (sz := 1) Try.underlying27 (by kernel_rfl) (by decide) (b := 1) (by kernel_rfl) (fun _ => rfl) (Rd.u8 Try.underlying5)).map id (fun l => by simp [bD, ones, Function.comp_def]) fun l h => ⟨by have := h.1; simp only [id] at *; omega, h.2⟩
theorem rd_arm : RdP enc W 49 armR (fun y => I64 y.1 ∧ I64 y.2) :=
  (Rd.struct Try.underlying49 (by kernel_rfl) (.cons rfl (s := 1) (by kernel_rfl) (Rd.i64 Try.underlying2) (.cons rfl (s := 1) (by kernel_rfl) (Rd.i64 Try.underlying3) .nil))).map (fun p => (p.1, p.2.1)) (fun _ => rfl) fun p h => ⟨h.1, h.2.1⟩
theorem rd_arms : RdP enc W 22 (fun l => [armD l]) (fun l => l.length < 2 ^ 44 ∧ ∀ y ∈ l, I64 y.1 ∧ I64 y.2) :=
  (Rd.slice (sz := 2) Try.underlying22 (by kernel_rfl) (by decide) (b := 16) (by kernel_rfl) (fun _ => rfl) rd_arm).map id (fun _ => rfl) fun l h => ⟨by have := h.1; simp only [id] at *; omega, h.2⟩
theorem rd_in : RdP enc W 24 inC (fun y => y.Ok) :=
  (Rd.struct Try.underlying24 (by kernel_rfl) (.cons rfl (s := 1) (by kernel_rfl) (Rd.u8 Try.underlying5) (.cons rfl (s := 1) (by kernel_rfl) (Rd.i64 Try.underlying2) (.cons rfl (s := 1) (by kernel_rfl) (Rd.i64 Try.underlying2) (.cons rfl (s := 1) (by kernel_rfl) rd_arms .nil))))).map
    (fun p => ⟨p.1, p.2.1, p.2.2.1, p.2.2.2.1⟩) (fun _ => rfl) fun p h => ⟨h.1, h.2.1, h.2.2.1, h.2.2.2.1.2, h.2.2.2.1.1⟩
theorem rd_fld : RdP enc W 65 fldR (fun f => f.1.length < 2 ^ 47 ∧ I64 f.2) :=
  (Rd.struct Try.underlying65 (by kernel_rfl) (.cons rfl (s := 1) (by kernel_rfl) (Rd.str Try.underlying9) (.cons rfl (s := 1) (by kernel_rfl) (Rd.i64 Try.underlying3) .nil))).map (fun p => (p.1, p.2.1)) (fun _ => rfl) fun p h => ⟨h.1, h.2.1⟩
theorem rd_flds : RdP enc W 66 (fun l => [fldsD l]) (fun l => l.length < 2 ^ 47 ∧ ∀ f ∈ l, f.1.length < 2 ^ 47 ∧ I64 f.2) :=
  (Rd.slice (sz := 2) Try.underlying66 (by kernel_rfl) (by decide) (b := 24) (by kernel_rfl) (fun _ => rfl) rd_fld).map id (fun _ => rfl) fun l h => ⟨by have := h.1; simp only [id] at *; omega, h.2⟩
theorem rd_ty : RdP enc W 68 tyR Ty.Ok :=
  (Rd.struct Try.underlying68 (by kernel_rfl) (.cons rfl (s := 1) (by kernel_rfl) (Rd.u8 Try.underlying5) (.cons rfl (s := 1) (by kernel_rfl) (Rd.str Try.underlying9) (.cons rfl (s := 1) (by kernel_rfl) rd_flds (.cons rfl (s := 1) (by kernel_rfl) (Rd.i64 Try.underlying3) (.cons rfl (s := 1) (by kernel_rfl) (Rd.i64 Try.underlying3) .nil)))))).map
    (fun p => (⟨p.1, p.2.1, p.2.2.1, p.2.2.2.1, p.2.2.2.2.1⟩ : Ty)) (fun _ => rfl) fun p h => ⟨h.1, h.2.1, h.2.2.1.1, h.2.2.1.2, h.2.2.2.1, h.2.2.2.2.1⟩
theorem rd_tys : RdP enc W 51 (fun l => [tysD l]) (fun l => l.length < 2 ^ 47 ∧ ∀ t ∈ l, t.Ok) :=
  (Rd.slice (sz := 5) Try.underlying51 (by kernel_rfl) (by decide) (b := 64) (by kernel_rfl) (fun _ => rfl) rd_ty).map id (fun _ => rfl) fun l h => ⟨by have := h.1; simp only [id] at *; omega, h.2⟩
theorem rd_txs : RdP enc W 52 (fun l => [txsD l]) (fun l => l.length < 2 ^ 47 ∧ ∀ t ∈ l, t.length < 2 ^ 47) :=
  (Rd.slice (sz := 1) Try.underlying52 (by kernel_rfl) (by decide) (b := 16) (by kernel_rfl) (fun _ => rfl) (Rd.str Try.underlying9)).map id (fun l => by simp [txsD, ones, Function.comp_def]) fun l h => ⟨by have := h.1; simp only [id] at *; omega, h.2⟩
theorem rd_ro : RdP enc W 99 roR Ro.Ok :=
  (Rd.struct Try.underlying99 (by kernel_rfl) (.cons rfl (s := 1) (by kernel_rfl) (Rd.str Try.underlying9) (.cons rfl (s := 1) (by kernel_rfl) rd_ints (.cons rfl (s := 1) (by kernel_rfl) rd_ints (.cons rfl (s := 1) (by kernel_rfl) (Rd.i64 Try.underlying3) (.cons rfl (s := 1) (by kernel_rfl) (Rd.i64 Try.underlying3) (.cons rfl (s := 1) (by kernel_rfl) rd_bytes .nil))))))).map
    (fun p => (⟨p.1, p.2.1, p.2.2.1, p.2.2.2.1, p.2.2.2.2.1, p.2.2.2.2.2.1⟩ : Ro)) (fun _ => rfl) fun p h => ⟨h.1, h.2.1.1, h.2.2.1.1, fun n hn => by
      rcases List.mem_append.1 hn with hn | hn
      · exact h.2.1.2 n hn
      · exact h.2.2.1.2 n hn, h.2.2.2.1, h.2.2.2.2.1, h.2.2.2.2.2.1.1, h.2.2.2.2.2.1.2⟩
theorem rd_ros : RdP enc W 53 (fun l => [rosD l]) (fun l => l.length < 2 ^ 47 ∧ ∀ t ∈ l, t.Ok) :=
  (Rd.slice (sz := 6) Try.underlying53 (by kernel_rfl) (by decide) (b := 104) (by kernel_rfl) (fun _ => rfl) rd_ro).map id (fun _ => rfl) fun l h => ⟨by have := h.1; simp only [id] at *; omega, h.2⟩
theorem rd_mo : RdP enc W 55 moC Mo.Ok :=
  (Rd.struct Try.underlying55 (by kernel_rfl) (.cons rfl (s := 1) (by kernel_rfl) rd_tys (.cons rfl (s := 1) (by kernel_rfl) rd_txs (.cons rfl (s := 1) (by kernel_rfl) rd_ros .nil)))).map
    (fun p => (⟨p.1, p.2.1, p.2.2.1⟩ : Mo)) (fun _ => rfl) fun p h => ⟨h.1.1, h.2.1.1, h.2.2.1.1, h.1.2, h.2.1.2, h.2.2.1.2⟩
end
end Go.Proofs.Ytcboaonbfgjmgaa.d
end
