/-
  Texts Cw Cx Vk, as far as they are used.
-/
import Derived.Test.YtchnpgddpaonhaaUbc
import Derived.Test.YtchnpgddpaonhaaRows
import Derived.Test.YtchnpgddpaonhaaUau
import Derived.KernelRfl
section
open Go.Proofs Go Go.Am Go.Op
namespace Go.Proofs.Ytchnpgddpaonhaa.d
set_option linter.unusedVariables false
set_option linter.unusedSimpArgs false
set_option maxRecDepth 100000
/-- What Takes answers: lists of one's own, the error. -/
def TkQ (S : DSt) (r : List Int × List Int × Int) (v : D) (S' : DSt) : Prop := ∃ c d, v = .tup [c, d, .int .i64 r.2.2] ∧ Two S c r.1 d r.2.1 S'
theorem isS_op {y : In} (h : isS y = true) : 1 ≤ y.op ∧ y.op ≤ 52 := by
  have hs : (lay y.op).isSome = true := by
    unfold isS at h
    simp only [Bool.and_eq_true] at h
    exact h.1.1
  by_cases c : 1 ≤ y.op ∧ y.op ≤ 52
  · exact c
  · exfalso
    rw [← layR_is] at hs
    unfold layR at hs
    have ne : ∀ p : Int, 1 ≤ p → p ≤ 52 → (y.op == p) = false := fun p h1 h2 => by
      rw [beqD]; exact decide_eq_false (by omega)
    simp only [ne 6 (by decide) (by decide), ne 7 (by decide) (by decide), ne 8 (by decide) (by decide), ne 50 (by decide) (by decide), ne 36 (by decide) (by decide), ne 37 (by decide) (by decide), ne 38 (by decide) (by decide), ne 23 (by decide) (by decide), ne 24 (by decide) (by decide), ne 46 (by decide) (by decide), ne 47 (by decide) (by decide), ne 48 (by decide) (by decide), Bool.false_or] at hs
    rw [if_neg (by omega), if_neg (by omega), if_neg (by omega), if_neg (by simp; omega), if_neg (by simp), if_neg (by simp), if_neg (by simp; omega), if_neg (by omega), if_neg (by simp), if_neg (by omega), if_neg (by omega), if_neg (by simp; omega)] at hs
    cases hs
section
variable {E : Env} {w0 : World}
theorem clone_got {l : List Int} {d : D} (hl : l.length < 2 ^ 40) (he : eqSl d .nilSlc = some false) (hr : ∀ S, rowsS S 1 d = some (iC l)) {x : Bool} {S : DSt} : DFn Try.prog E w0 x f_slices_Clone_int [d] S fun d S' => Own S d l S' := by
  refine V_slices_Clone_int_ok ?_
  unfold V_slices_Clone_int
  rw [he, eqE, oD, cdF]
  refine lit_raw (rows := []) fun k acs n => ?_
  simp only [appendD, hr, growD]
  by_cases hn : iC l = []
  · rw [if_pos hn]
    have : l = [] := by
      cases l with
      | nil => rfl
      | cons a l => simp [iC, ones] at hn
    subst this
    exact FinD.here (.inr ⟨k, acs, true, n, rfl, rfl⟩)
  · rw [if_neg hn, DSt.set_same]
    simp only
    rw [if_pos ⟨by trivial, by trivial, by simp⟩]
    refine ⟨by simp; omega, .inr fun k' acs' hk' => ?_⟩
    rw [DSt.erase_set _ _ _ n] at hk' ⊢
    refine FinD.here (.inr ⟨k', acs', false, hk', ?_, ?_⟩) <;> simp
theorem clone_ok {l : List Int} (hl : l.length < 2 ^ 40) {x : Bool} {S : DSt} : DFn Try.prog E w0 x f_slices_Clone_int [iD l] S fun d S' => Own S d l S' := by
  cases l with
  | nil =>
    refine DF.split (pre := []) (post := []) (V_slices_Clone_int_ok ?_) (clone_got (by decide) rfl fun S => by simp [rowsS, rowsOf, iC, ones])
    unfold V_slices_Clone_int
    rw [show eqOp .eql (eqSl .nilSlc .nilSlc) = some (.bool true) from rfl, oD, cdT]
    exact FinD.here (Own.nil _)
  | cons a l => exact clone_got hl rfl fun S => iD_rows S _
variable {S B S' : DSt} {k8 : Nat} {y : In} {m : Mo}
theorem takes26 {r : List Int × List Int × Bool} {c d : D} {a : List AV} (hB : S.le B) (h8 : B k8 = some ⟨3, [[c, d, .bool r.2.2]], a⟩) (g : Two B c r.1 d r.2.1 S') (e : takesS y m = if r.2.2 = true then (r.1, r.2.1, 0) else ([], [], 2)) :
    C_ops_Takes_26 E w0 false (FinD E (TkQ S (takesS y m))) (.ptr k8 0) S' := by
  refine C_ops_Takes_26_ok ?_
  unfold P_ops_Takes_26
  have h := g.le _ _ h8
  simp only [ofP, oD, Nat.zero_add, ldP h, List.getElem?_cons_zero, List.getElem?_cons_succ, unN]
  obtain ⟨S'', l, g''⟩ := g.base hB
  cases hr : r.2.2 with
  | false =>
    rw [Bool.not_false, cdT]
    rw [hr, if_neg (by simp)] at e
    rw [e]
    exact FinD.less (DSt.le_trans hB g.le) (FinD.here ⟨.nilSlc, .nilSlc, rfl, S, Own.nil _, Own.nil _⟩)
  | true =>
    rw [Bool.not_true, cdF]
    rw [hr, if_pos rfl] at e
    rw [e]
    exact ⟨trivial, trivial, FinD.less l (FinD.here ⟨c, d, rfl, g''⟩)⟩
theorem store8 {r : List Int × List Int × Bool} {c d : D} {a : List AV} (hB : S.le B) (hn : S k8 = none) (h8 : B k8 = some ⟨3, [[.nilSlc, .nilSlc, .bool false]], a⟩) (g : Two B c r.1 d r.2.1 S') (e : takesS y m = if r.2.2 = true then (r.1, r.2.1, 0) else ([], [], 2)) :
    storeD S' 3 (.ptr k8 0) (efD c d r.2.2) fun _ S8 => C_ops_Takes_26 E w0 false (FinD E (TkQ S (takesS y m))) (.ptr k8 0) S8 := by
  refine stP (ds := [c, d, .bool r.2.2]) (g.le _ _ h8) (clA _) ⟨rfl, by decide, by simp⟩ fun a3 => ?_
  exact takes26 (r := r) (DSt.le_set hB hn) (DSt.set_same _ _ _) (g.upd h8) e
end
end Go.Proofs.Ytchnpgddpaonhaa.d
end

section
open Go.Proofs Go Go.Am Go.Op
namespace Go.Proofs.Ytchnpgddpaonhaa.d
set_option linter.unusedVariables false
set_option linter.unusedSimpArgs false
set_option maxRecDepth 100000
section
variable {E : Env} {w0 : World}
set_option maxHeartbeats 1000000 in
theorem ops_Takes_ok {y : In} {m : Mo} (hy : y.Ok) (hm : m.Fits) {S : DSt} : DFn Try.prog E w0 false f_ops_Takes [inD y, moD m] S (TkQ S (takesS y m)) := by
  refine V_ops_Takes_ok ?_
  unfold V_ops_Takes
  rw [inD, clA, oD]
  intro k a n
  rw [moD, clA, oD]
  intro k2 a2 n2
  obtain ⟨ne2, n2'⟩ := DSt.fresh n2
  generalize hS3 : (S.set k _).set k2 _ = S3
  have h2 : S3 k2 = some ⟨3, [moC m], a2⟩ := by rw [← hS3]; exact DSt.set_same _ _ _
  have h0 : S3 k = some ⟨4, [inC y], a⟩ := by rw [← hS3, DSt.set_ne _ _ _ (Ne.symm ne2)]; exact DSt.set_same _ _ _
  have hle : S.le S3 := by rw [← hS3]; exact DSt.le_set (DSt.le_new n) n2'
  clear hS3 n2
  have hok := hm.ok
  rw [laP h0 (by simp [inC]), oD]
  refine (ops_Size_ok hy).use ?_
  rw [biEq, oD, beqD]
  cases his : isS y with
  | false =>
    have e : encS y = [] := by unfold encS; rw [if_neg (by rw [his]; simp)]
    rw [e, decide_eq_true (by rfl), cdT]
    have et : takesS y m = ([], [], 120) := by unfold takesS; rw [if_pos his]
    rw [et]
    exact FinD.less hle (FinD.here ⟨.nilSlc, .nilSlc, rfl, S, Own.nil _, Own.nil _⟩)
  | true =>
  have ns : ¬ isS y = false := by rw [his]; simp
  have hlen : ¬ (((encS y).length : Nat) : Int) = 0 := by
    unfold encS
    rw [if_pos his]
    unfold encB
    simp
    omega
  rw [decide_eq_false hlen, cdF]
  intro k8 a8 n8
  have h8 : (S3.set k8 ⟨3, [[.nilSlc, .nilSlc, .bool false]], a8⟩) k8 = some ⟨3, [[.nilSlc, .nilSlc, .bool false]], a8⟩ := DSt.set_same _ _ _
  have z8 : S k8 = none := by
    cases e : S k8 with
    | none => rfl
    | some o => rw [hle _ _ e] at n8; cases n8
  have h0' : (S3.set k8 ⟨3, [[.nilSlc, .nilSlc, .bool false]], a8⟩) k = some ⟨4, [inC y], a⟩ := by rw [DSt.set_ne _ _ _ (fun e => by rw [← e, h0] at n8; cases n8)]; exact h0
  have h2' : (S3.set k8 ⟨3, [[.nilSlc, .nilSlc, .bool false]], a8⟩) k2 = some ⟨3, [moC m], a2⟩ := by rw [DSt.set_ne _ _ _ (fun e => by rw [← e, h2] at n8; cases n8)]; exact h2
  have hle' : S.le (S3.set k8 ⟨3, [[.nilSlc, .nilSlc, .bool false]], a8⟩) := DSt.le_set hle z8
  have e3 : ([D.nilSlc, .nilSlc, .bool false]).length = 3 := rfl
  rw [e3]
  clear h0 h2 hle
  generalize S3.set k8 ⟨3, [[.nilSlc, .nilSlc, .bool false]], a8⟩ = S9 at h8 h0' h2' hle' ⊢
  have l0 : loadSc S9 (.ptr k 0) = some (.int .u8 y.op) := by rw [ldP h0']; rfl
  have l1 : loadSc S9 (.ptr k 1) = some (.int .i64 y.a) := by rw [ldP h0']; rfl
  have m1 : loadSc S9 (.ptr k2 1) = some (txsD m.texts) := by rw [ldP h2']; rfl
  have m2 : loadSc S9 (.ptr k2 2) = some (rosD m.funcs) := by rw [ldP h2']; rfl
  have li : loadAg S9 4 (.ptr k 0) = some (inD y) := by rw [laP h0' (by simp [inC])]; rfl
  have lm : loadAg S9 3 (.ptr k2 0) = some (moD m) := by rw [laP h2' (by simp [moC])]; rfl
  have lx : ∀ l : List Tx, lenSl (txsD l) = some (.int .i64 (l.length : Int)) := fun l => by simp [txsD]
  have lr : ∀ l : List Ro, lenSl (rosD l) = some (.int .i64 (l.length : Int)) := fun l => by simp [rosD]
  simp only [ofP, oD, Nat.zero_add, l0]
  refine tEq ?_
  rw [cdI]
  refine ⟨fun h6 => ?_, fun h6 => ?_⟩
  · have et : takesS y m = if decide (y.a < m.texts.length) = true then ([], [5], 0) else ([], [], 2) := by
      unfold takesS
      rw [if_neg ns]
      by_cases d : y.a < m.texts.length
      · rw [if_neg (by omega), if_neg (by omega), if_neg (by omega), if_pos (decide_eq_true d)]
        unfold plainS
        rw [if_neg (by omega), if_neg (by omega), if_pos h6]
      · rw [if_pos (by omega), if_neg (by rw [decide_eq_false d]; simp)]
    refine ⟨by trivial, ?_, ?_, trivial⟩
    · refine (ops_of_ok clN).useX ⟨trivial, lit_own (l := [5]) fun v S4 g1 => ⟨trivial, (ops_gives_ok (a := .nilSlc) (b := .nilSlc) (c := .bool true) g1.cells).useX ⟨trivial, ?_⟩⟩⟩
      have q1 : loadSc S4 (.ptr k 1) = some (.int .i64 y.a) := by rw [ldP (g1.le _ _ h0')]; rfl
      have q2 : loadSc S4 (.ptr k2 1) = some (txsD m.texts) := by rw [ldP (g1.le _ _ h2')]; rfl
      have f1 : S4 k = S9 k := by rw [g1.le _ _ h0', h0']
      have f2 : S4 k2 = S9 k2 := by rw [g1.le _ _ h2', h2']
      simp only [ofP, oD, orAny, Nat.zero_add, l1, m1, q1, q2, lx, biLt, fwP, f1, f2]
      simp only [ne_eq, reduceCtorEq, not_false_eq_true, true_and, and_true]
      refine (ops_given_ok (a := .nilSlc) (b := v) (c := .bool true) (clB _)).useX ?_
      exact store8 (E := E) (w0 := w0) (r := ([], [5], decide (y.a < m.texts.length))) hle' z8 h8 ⟨S9, Own.nil _, g1⟩ et
    · refine lit_own (l := [5]) fun v S4 g1 => ⟨trivial, (ops_of_ok clN).useX ⟨trivial, (ops_gives_ok (a := .nilSlc) (b := .nilSlc) (c := .bool true) g1.cells).useX ⟨trivial, ?_⟩⟩⟩
      have q1 : loadSc S4 (.ptr k 1) = some (.int .i64 y.a) := by rw [ldP (g1.le _ _ h0')]; rfl
      have q2 : loadSc S4 (.ptr k2 1) = some (txsD m.texts) := by rw [ldP (g1.le _ _ h2')]; rfl
      have f1 : S4 k = S9 k := by rw [g1.le _ _ h0', h0']
      have f2 : S4 k2 = S9 k2 := by rw [g1.le _ _ h2', h2']
      simp only [ofP, oD, orAny, Nat.zero_add, l1, m1, q1, q2, lx, biLt, fwP, f1, f2]
      simp only [ne_eq, reduceCtorEq, not_false_eq_true, true_and, and_true]
      refine (ops_given_ok (a := .nilSlc) (b := v) (c := .bool true) (clB _)).useX ?_
      exact store8 (E := E) (w0 := w0) (r := ([], [5], decide (y.a < m.texts.length))) hle' z8 h8 ⟨S9, Own.nil _, g1⟩ et
  refine tEq ?_
  rw [cdI]
  refine ⟨fun h50 => ?_, fun h50 => ?_⟩
  · simp only [oD, l1, m2, lr, biLt]
    rw [cdI]
    refine ⟨fun hlt => ?_, fun hlt => ?_⟩
    · obtain ⟨ha1, ha2⟩ := isS_a his h50
      obtain ⟨i, hi⟩ : ∃ i : Nat, i = y.a.toNat := ⟨_, rfl⟩
      have hi' : y.a = (i : Int) := by omega
      have hil : i < m.funcs.length := by omega
      obtain ⟨r, hr⟩ : ∃ r, r = m.funcs[i] := ⟨_, rfl⟩
      have ea : m.funcs[i]? = some r := by rw [List.getElem?_eq_getElem hil, hr]
      obtain ⟨p1, p2, _⟩ := hm.params r (by rw [hr]; exact List.getElem_mem _)
      have ex : idxSl 6 (rosD m.funcs) (.int .i64 (i : Int)) = some (.elt (roR r) 0) := rosD_at ea
      have et : takesS y m = (r.params, r.results, 0) := by
        unfold takesS
        rw [if_neg ns, if_neg (by omega), if_pos h50, ← hi, ea]
      rw [hi', ex, oD, show loadAg S9 6 (.elt (roR r) 0) = some (.agg (roR r)) from rfl, oD]
      intro k5 a5 n5
      refine stP (ds := roR r) (DSt.set_same _ _ _) (clA _) ⟨rfl, by decide, by simp [roR]⟩ fun a6 => ?_
      rw [DSt.set_set]
      have h5 : (S9.set k5 ⟨6, [roR r], a6⟩) k5 = some ⟨6, [roR r], a6⟩ := DSt.set_same _ _ _
      have h8' : (S9.set k5 ⟨6, [roR r], a6⟩) k8 = some ⟨3, [[.nilSlc, .nilSlc, .bool false]], a8⟩ := by rw [DSt.set_ne _ _ _ (fun e => by rw [← e, h8] at n5; cases n5)]; exact h8
      have l5 : S.le (S9.set k5 ⟨6, [roR r], a6⟩) := DSt.le_trans hle' (DSt.le_new n5)
      show optW (offD 1 (.ptr k5 0)) _
      generalize hS5 : S9.set k5 _ = S5
      have h5 : S5 k5 = some ⟨6, [roR r], a6⟩ := by rw [← hS5]; exact h5
      have h8' : S5 k8 = some ⟨3, [[.nilSlc, .nilSlc, .bool false]], a8⟩ := by rw [← hS5]; exact h8'
      have l5 : S.le S5 := by rw [← hS5]; exact l5
      have q1 : loadSc S5 (.ptr k5 1) = some (iD r.params) := by rw [ldP h5]; rfl
      have q2 : loadSc S5 (.ptr k5 2) = some (iD r.results) := by rw [ldP h5]; rfl
      simp only [ofP, oD, Nat.zero_add, q1]
      refine ⟨trivial, (clone_ok (x := true) (by omega)).toX fun c S4 g1 => ⟨trivial, (ops_of_ok g1.cells).useX ⟨trivial, ?_⟩⟩⟩
      have q3 : loadSc S4 (.ptr k5 2) = some (iD r.results) := by rw [ldP (g1.le _ _ h5)]; rfl
      have f1 : S4 k5 = S5 k5 := by rw [g1.le _ _ h5, h5]
      simp only [oD, orAny, q2, q3]
      refine ⟨⟨⟨by simp, rfl⟩, ⟨by simp, f1⟩, trivial⟩, (clone_ok (x := true) (by omega)).toX fun d S6 g2 => ⟨trivial, (ops_gives_ok (a := c) (b := .nilSlc) (c := .bool true) g2.cells).useX ⟨trivial, ?_⟩⟩⟩
      have := store8 (E := E) (w0 := w0) (y := y) (m := m) (r := (r.params, r.results, true)) l5 z8 h8' ⟨S4, g1, g2⟩ (by rw [et, if_pos rfl])
      simp only [true_and]
      exact this
    · exact takes26 (r := ([], [], false)) hle' h8 ⟨S9, Own.nil _, Own.nil _⟩ (by unfold takesS; rw [if_neg ns, if_pos (by omega), if_neg (by simp)])
  refine tIn l0 ?_
  rw [cdI]
  refine ⟨fun h36 => ?_, fun h36 => ?_⟩
  · rw [li, oD, lm, oD]
    refine (ops_made_ok hy hm (isS_b his)).use ?_
    rintro v S' ⟨c, d, rfl, g⟩
    refine store8 (r := madeS y m) hle' z8 h8 g ?_
    unfold takesS
    rw [if_neg ns, if_neg (by omega), if_neg h50, if_pos h36]
  · rw [li, oD]
    obtain ⟨o1, o2⟩ := isS_op his
    refine (ops_plain_ok hy (by omega)).use ?_
    rintro v S' ⟨c, d, rfl, g⟩
    refine store8 (r := ((plainS y).1, (plainS y).2, true)) hle' z8 h8 g ?_
    unfold takesS
    rw [if_neg ns, if_neg (by omega), if_neg h50, if_neg h36, if_pos rfl]
end
end Go.Proofs.Ytchnpgddpaonhaa.d
end

section
open Go.Proofs Go Go.Am
namespace Go.Proofs.Ytchnpgddpaonhaa.d
set_option linter.unusedVariables false
set_option maxRecDepth 100000
/- trammel/image.there -/
def lo_image_there : List (Nat × List Nat) := []
def cu_image_there : List (Nat × List Nat) := []
def V_image_there (E : Env) (w0 : World) (x : Bool) (Q : D → DSt → Prop) (a0 a1 : D) (S : DSt) : Prop :=
  optW (cellsD a0) fun cs => allocD S cs fun v0 S1 =>
  optW (binI .leq (.int .i64 1) a1) fun v2 =>
  optW (valGD (wantsD v2 true) (some a1)) fun v3 =>
  optW (valGD (wantsD v2 true) (binI .leq v3 (.int .i64 5))) fun v4 =>
  optW (pickD v2 v4 (.bool false)) fun v5 =>
  optW (valGD (wantsD v5 false) (some a1)) fun v6 =>
  optW (valGD (wantsD v5 false) (binI .geq v6 (.int .i64 16))) fun v7 =>
  optW (valGD (wantsD v5 false) (some v7)) fun v8 =>
  optW (valGD (wantsD v8 true) (some a1)) fun v9 =>
  optW (valGD (wantsD v8 true) (binI .sub v9 (.int .i64 16))) fun v10 =>
  optW (valGD (wantsD v8 true) (offD 0 v0)) fun v11 =>
  optW (valGD (wantsD v8 true) (loadSc S1 v11)) fun v12 =>
  optW (valGD (wantsD v8 true) (lenSl v12)) fun v13 =>
  optW (valGD (wantsD v8 true) (binI .lss v10 v13)) fun v14 =>
  optW (valGD (wantsD v5 false) (pickD v8 v14 (.bool false))) fun v15 =>
  optW (pickD v5 (.bool true) v15) fun v16 =>
  Q v16 S1
theorem V_image_there_ok {E : Env} {w0 : World} {x : Bool} {Q : D → DSt → Prop} {a0 a1 : D} {S : DSt} (h : V_image_there E w0 x (FinD E Q) a0 a1 S) : DFn Try.prog E w0 x f_image_there [a0, a1] S Q :=
  fnD_of_vc lo_image_there cu_image_there (fn := Try.f69) (c := Try.f69.body.getD .skip) mixed Try.func69 (by kernel_rfl) (by kernel_rfl) h

/- trammel/image.mayType -/
def lo_image_mayType : List (Nat × List Nat) := []
def cu_image_mayType : List (Nat × List Nat) := []
def V_image_mayType (E : Env) (w0 : World) (x : Bool) (Q : D → DSt → Prop) (a0 a1 : D) (S : DSt) : Prop :=
  optW (cellsD a0) fun cs => allocD S cs fun v0 S1 =>
  optW (cellsD a1) fun cs => allocD S1 cs fun v2 S3 =>
  optW (offD 1 v2) fun v4 =>
  optW (loadSc S3 v4) fun v5 =>
  optW (binS .eql v5 (.str [])) fun v6 =>
  optW (valGD (wantsD v6 true) (offD 2 v2)) fun v7 =>
  optW (valGD (wantsD v6 true) (loadSc S3 v7)) fun v8 =>
  optW (valGD (wantsD v6 true) (lenSl v8)) fun v9 =>
  optW (valGD (wantsD v6 true) (binI .eql v9 (.int .i64 0))) fun v10 =>
  optW (pickD v6 v10 (.bool false)) fun v11 =>
  optW (valGD (wantsD v11 true) (loadAg S3 3 v0)) fun v12 =>
  optW (valGD (wantsD v11 true) (offD 3 v2)) fun v13 =>
  optW (valGD (wantsD v11 true) (loadSc S3 v13)) fun v14 =>
  guardD (wantsD v11 true) (fun K => DFn Try.prog E w0 x f_image_there [v12, v14] S3 K) S3 fun v15 S16 =>
  optW (pickD v11 v15 (.bool false)) fun v17 =>
  optW (offD 0 v2) fun v18 =>
  optW (loadSc S16 v18) fun v19 =>
  optW (binI .eql v19 (.int .u8 6)) fun v20 =>
  condD v20
  (optW (offD 3 v2) fun v21 =>
  optW (loadSc S16 v21) fun v22 =>
  optW (binI .eql v22 (.int .i64 0)) fun v23 =>
  optW (valGD (wantsD v23 true) (offD 4 v2)) fun v24 =>
  optW (valGD (wantsD v23 true) (loadSc S16 v24)) fun v25 =>
  optW (valGD (wantsD v23 true) (binI .eql v25 (.int .i64 0))) fun v26 =>
  optW (pickD v23 v26 (.bool false)) fun v27 =>
  optW (valGD (wantsD v27 true) (offD 2 v2)) fun v28 =>
  optW (valGD (wantsD v27 true) (loadSc S16 v28)) fun v29 =>
  optW (valGD (wantsD v27 true) (some (.fn (.func f_image_mayType_1) [] [v0]))) fun v30 =>
  guardD (wantsD v27 true) (fun K => DFn Try.prog E w0 x f_slices_ContainsFunc_api_Field [v29, v30] S16 K) S16 fun v31 S32 =>
  optW (valGD (wantsD v27 true) (unD .not v31)) fun v33 =>
  optW (pickD v27 v33 (.bool false)) fun v34 =>
  Q v34 S32)
  (optW (binI .eql v19 (.int .u8 7)) fun v35 =>
  condD v35
  (optW (valGD (wantsD v17 true) (offD 4 v2)) fun v36 =>
  optW (valGD (wantsD v17 true) (loadSc S16 v36)) fun v37 =>
  optW (valGD (wantsD v17 true) (binI .geq v37 (.int .i64 0))) fun v38 =>
  optW (pickD v17 v38 (.bool false)) fun v39 =>
  optW (valGD (wantsD v39 true) (offD 4 v2)) fun v40 =>
  optW (valGD (wantsD v39 true) (loadSc S16 v40)) fun v41 =>
  optW (valGD (wantsD v39 true) (binI .leq v41 (.int .i64 65536))) fun v42 =>
  optW (pickD v39 v42 (.bool false)) fun v43 =>
  Q v43 S16)
  (optW (binI .eql v19 (.int .u8 8)) fun v44 =>
  condD v44
  (optW (valGD (wantsD v17 true) (offD 4 v2)) fun v45 =>
  optW (valGD (wantsD v17 true) (loadSc S16 v45)) fun v46 =>
  optW (valGD (wantsD v17 true) (binI .eql v46 (.int .i64 0))) fun v47 =>
  optW (pickD v17 v47 (.bool false)) fun v48 =>
  Q v48 S16)
  (Q (.bool false) S16)))
theorem V_image_mayType_ok {E : Env} {w0 : World} {x : Bool} {Q : D → DSt → Prop} {a0 a1 : D} {S : DSt} (h : V_image_mayType E w0 x (FinD E Q) a0 a1 S) : DFn Try.prog E w0 x f_image_mayType [a0, a1] S Q :=
  fnD_of_vc lo_image_mayType cu_image_mayType (fn := Try.f45) (c := Try.f45.body.getD .skip) mixed Try.func45 (by kernel_rfl) (by kernel_rfl) h

/- trammel/image.mayType$1 -/
def lo_image_mayType_1 : List (Nat × List Nat) := []
def cu_image_mayType_1 : List (Nat × List Nat) := []
def V_image_mayType_1 (E : Env) (w0 : World) (x : Bool) (Q : D → DSt → Prop) (a0 c0 : D) (S : DSt) : Prop :=
  optW (cellsD a0) fun cs => allocD S cs fun v0 S1 =>
  optW (loadAg S1 3 c0) fun v2 =>
  optW (offD 1 v0) fun v3 =>
  optW (loadSc S1 v3) fun v4 =>
  DFn Try.prog E w0 x f_image_there [v2, v4] S1 fun v5 S6 =>
  optW (unD .not v5) fun v7 =>
  Q v7 S6
theorem V_image_mayType_1_ok {E : Env} {w0 : World} {x : Bool} {Q : D → DSt → Prop} {a0 c0 : D} {S : DSt} (h : V_image_mayType_1 E w0 x (FinD E Q) a0 c0 S) : DFn Try.prog E w0 x f_image_mayType_1 [a0, c0] S Q :=
  fnD_of_vc lo_image_mayType_1 cu_image_mayType_1 (fn := Try.f70) (c := Try.f70.body.getD .skip) mixed Try.func70 (by kernel_rfl) (by kernel_rfl) h

/- trammel/image.mayFunc -/
def lo_image_mayFunc : List (Nat × List Nat) := []
def cu_image_mayFunc : List (Nat × List Nat) := []
def V_image_mayFunc (E : Env) (w0 : World) (x : Bool) (Q : D → DSt → Prop) (a0 a1 : D) (S : DSt) : Prop :=
  optW (cellsD a0) fun cs => allocD S cs fun v0 S1 =>
  optW (cellsD a1) fun cs => allocD S1 cs fun v2 S3 =>
  optW (some (.fn (.func f_image_mayFunc_1) [] [v0])) fun v4 =>
  optW (offD 1 v2) fun v5 =>
  optW (loadSc S3 v5) fun v6 =>
  DFn Try.prog E w0 x f_slices_ContainsFunc_int [v6, v4] S3 fun v7 S8 =>
  optW (valGD (wantsD v7 false) (offD 2 v2)) fun v9 =>
  optW (valGD (wantsD v7 false) (loadSc S8 v9)) fun v10 =>
  optW (valGD (wantsD v7 false) (some v4)) fun v11 =>
  guardD (wantsD v7 false) (fun K => DFn Try.prog E w0 x f_slices_ContainsFunc_int [v10, v11] S8 K) S8 fun v12 S13 =>
  optW (pickD v7 (.bool true) v12) fun v14 =>
  optW (valGD (wantsD v14 false) (offD 3 v2)) fun v15 =>
  optW (valGD (wantsD v14 false) (loadSc S13 v15)) fun v16 =>
  optW (valGD (wantsD v14 false) (offD 1 v2)) fun v17 =>
  optW (valGD (wantsD v14 false) (loadSc S13 v17)) fun v18 =>
  optW (valGD (wantsD v14 false) (lenSl v18)) fun v19 =>
  optW (valGD (wantsD v14 false) (binI .lss v16 v19)) fun v20 =>
  optW (pickD v14 (.bool true) v20) fun v21 =>
  optW (valGD (wantsD v21 false) (offD 4 v2)) fun v22 =>
  optW (valGD (wantsD v21 false) (loadSc S13 v22)) fun v23 =>
  optW (valGD (wantsD v21 false) (binI .lss v23 (.int .i64 0))) fun v24 =>
  optW (pickD v21 (.bool true) v24) fun v25 =>
  condD v25
  (Q (.bool false) S13)
  (optW (offD 5 v2) fun v26 =>
  optW (loadSc S13 v26) fun v27 =>
  DFn Try.prog E w0 x f_ops_All [v27] S13 fun v28 S29 =>
  optW (extractD v28 0) fun v30 =>
  optW (extractD v28 1) fun v31 =>
  optW (extractD v28 2) fun v32 =>
  optW (binI .eql v32 (.int .i64 0)) fun v33 =>
  optW (valGD (wantsD v33 true) (some v30)) fun v34 =>
  optW (valGD (wantsD v33 true) (some (.fn (.func f_image_mayFunc_2) [] [v0, v2]))) fun v35 =>
  guardD (wantsD v33 true) (fun K => DFn Try.prog E w0 x f_slices_ContainsFunc_api_Instr [v34, v35] S29 K) S29 fun v36 S37 =>
  optW (valGD (wantsD v33 true) (unD .not v36)) fun v38 =>
  optW (pickD v33 v38 (.bool false)) fun v39 =>
  Q v39 S37)
theorem V_image_mayFunc_ok {E : Env} {w0 : World} {x : Bool} {Q : D → DSt → Prop} {a0 a1 : D} {S : DSt} (h : V_image_mayFunc E w0 x (FinD E Q) a0 a1 S) : DFn Try.prog E w0 x f_image_mayFunc [a0, a1] S Q :=
  fnD_of_vc lo_image_mayFunc cu_image_mayFunc (fn := Try.f48) (c := Try.f48.body.getD .skip) mixed Try.func48 (by kernel_rfl) (by kernel_rfl) h

/- trammel/image.mayFunc$1 -/
def lo_image_mayFunc_1 : List (Nat × List Nat) := []
def cu_image_mayFunc_1 : List (Nat × List Nat) := []
def V_image_mayFunc_1 (E : Env) (w0 : World) (x : Bool) (Q : D → DSt → Prop) (a0 c0 : D) (S : DSt) : Prop :=
  optW (loadAg S 3 c0) fun v0 =>
  DFn Try.prog E w0 x f_image_there [v0, a0] S fun v1 S2 =>
  optW (unD .not v1) fun v3 =>
  Q v3 S2
theorem V_image_mayFunc_1_ok {E : Env} {w0 : World} {x : Bool} {Q : D → DSt → Prop} {a0 c0 : D} {S : DSt} (h : V_image_mayFunc_1 E w0 x (FinD E Q) a0 c0 S) : DFn Try.prog E w0 x f_image_mayFunc_1 [a0, c0] S Q :=
  fnD_of_vc lo_image_mayFunc_1 cu_image_mayFunc_1 (fn := Try.f72) (c := Try.f72.body.getD .skip) mixed Try.func72 (by kernel_rfl) (by kernel_rfl) h

/- trammel/image.mayFunc$2 -/
def lo_image_mayFunc_2 : List (Nat × List Nat) := []
def cu_image_mayFunc_2 : List (Nat × List Nat) := []
def V_image_mayFunc_2 (E : Env) (w0 : World) (x : Bool) (Q : D → DSt → Prop) (a0 c0 c1 : D) (S : DSt) : Prop :=
  optW (cellsD a0) fun cs => allocD S cs fun v0 S1 =>
  optW (loadAg S1 4 v0) fun v2 =>
  optW (loadAg S1 3 c0) fun v3 =>
  DFn Try.prog E w0 x f_ops_Takes [v2, v3] S1 fun v4 S5 =>
  optW (extractD v4 0) fun v6 =>
  optW (extractD v4 1) fun v7 =>
  optW (extractD v4 2) fun v8 =>
  optW (binI .neq v8 (.int .i64 0)) fun v9 =>
  optW (valGD (wantsD v9 false) (offD 0 v0)) fun v10 =>
  optW (valGD (wantsD v9 false) (loadSc S5 v10)) fun v11 =>
  optW (valGD (wantsD v9 false) (binI .eql v11 (.int .u8 7))) fun v12 =>
  optW (valGD (wantsD v9 false) (some v12)) fun v13 =>
  optW (valGD (wantsD v13 false) (offD 0 v0)) fun v14 =>
  optW (valGD (wantsD v13 false) (loadSc S5 v14)) fun v15 =>
  optW (valGD (wantsD v13 false) (binI .eql v15 (.int .u8 8))) fun v16 =>
  optW (valGD (wantsD v9 false) (pickD v13 (.bool true) v16)) fun v17 =>
  optW (valGD (wantsD v9 false) (some v17)) fun v18 =>
  optW (valGD (wantsD v18 true) (offD 1 v0)) fun v19 =>
  optW (valGD (wantsD v18 true) (loadSc S5 v19)) fun v20 =>
  optW (valGD (wantsD v18 true) (offD 3 c1)) fun v21 =>
  optW (valGD (wantsD v18 true) (loadSc S5 v21)) fun v22 =>
  optW (valGD (wantsD v18 true) (binI .geq v20 v22)) fun v23 =>
  optW (valGD (wantsD v9 false) (pickD v18 v23 (.bool false))) fun v24 =>
  optW (pickD v9 (.bool true) v24) fun v25 =>
  Q v25 S5
theorem V_image_mayFunc_2_ok {E : Env} {w0 : World} {x : Bool} {Q : D → DSt → Prop} {a0 c0 c1 : D} {S : DSt} (h : V_image_mayFunc_2 E w0 x (FinD E Q) a0 c0 c1 S) : DFn Try.prog E w0 x f_image_mayFunc_2 [a0, c0, c1] S Q :=
  fnD_of_vc lo_image_mayFunc_2 cu_image_mayFunc_2 (fn := Try.f76) (c := Try.f76.body.getD .skip) mixed Try.func76 (by kernel_rfl) (by kernel_rfl) h

/- trammel/image.structure -/
def lo_image_structure : List (Nat × List Nat) := [(8, [1, 24, 25, 26]), (32, [1, 52, 53, 54])]
def cu_image_structure : List (Nat × List Nat) := [(37, [1, 4, 24, 25, 26, 30]), (97, [1, 6, 52, 53, 54, 58])]
noncomputable def R_image_structure_37 : Code := (codeAt [1, 1, 0, 1, 0, 0, 1, 1, 0, 0, 1, 0, 1] (Try.f22.body.getD .skip))
def KC_image_structure_37 (E : Env) (w0 : World) (x : Bool) (N0 : D → D → D → D → DSt → Prop) (Q : D → DSt → Prop) : AExit → List D → DSt → Prop :=
  (blockD 2 (blockD 1 (seqD Try.prog E w0 x lo_image_structure cu_image_structure (codeAt [1, 1, 0, 1, 0, 0, 1, 1, 1] (Try.f22.body.getD .skip)) (loopKD (fun T S => N0 (T.getD 1 undefD) (T.getD 24 undefD) (T.getD 25 undefD) (T.getD 26 undefD) S) (blockD 0 (seqD Try.prog E w0 x lo_image_structure cu_image_structure (codeAt [1, 1, 1] (Try.f22.body.getD .skip)) (retD Try.prog Try.f22 Q)))))))
def P_image_structure_37 (E : Env) (w0 : World) (x : Bool) (N0 : D → D → D → D → DSt → Prop) (Q : D → DSt → Prop) (x1 x4 x24 x25 x26 x30 : D) (S : DSt) : Prop :=
  condD x30
  (Q (.int .i64 3) S)
  (optW (loadAg S 3 x1) fun v26 =>
  optW (loadAg S 5 x4) fun v27 =>
  DFn Try.prog E w0 x f_image_mayType [v26, v27] S fun v28 S29 =>
  optW (unD .not v28) fun v30 =>
  condD v30
  (Q (.int .i64 130) S29)
  (optW (binI .add x26 (.int .i64 1)) fun v31 =>
  N0 x1 x24 x25 v31 S29))
def C_image_structure_37 (E : Env) (w0 : World) (x : Bool) (N0 : D → D → D → D → DSt → Prop) (Q : D → DSt → Prop) (x1 x4 x24 x25 x26 x30 : D) (S : DSt) : Prop := CodeD Try.prog E w0 x R_image_structure_37 (mkRow 87 [1, 4, 24, 25, 26, 30] [x1, x4, x24, x25, x26, x30]) S (KC_image_structure_37 E w0 x N0 Q)
theorem C_image_structure_37_ok {E : Env} {w0 : World} {x : Bool} {N0 : D → D → D → D → DSt → Prop} {Q : D → DSt → Prop} {x1 x4 x24 x25 x26 x30 : D} {S : DSt} (h : P_image_structure_37 E w0 x N0 Q x1 x4 x24 x25 x26 x30 S) : C_image_structure_37 E w0 x N0 Q x1 x4 x24 x25 x26 x30 S := codeD_of_vc lo_image_structure cu_image_structure mixed (by kernel_rfl) h
noncomputable def R_image_structure_97 : Code := (codeAt [1, 1, 1, 1, 0, 1, 0, 0, 1, 1, 0, 0, 1, 0, 1] (Try.f22.body.getD .skip))
def KC_image_structure_97 (E : Env) (w0 : World) (x : Bool) (N1 : D → D → D → D → DSt → Prop) (Q : D → DSt → Prop) : AExit → List D → DSt → Prop :=
  (blockD 5 (blockD 4 (seqD Try.prog E w0 x lo_image_structure cu_image_structure (codeAt [1, 1, 1, 1, 0, 1, 0, 0, 1, 1, 1] (Try.f22.body.getD .skip)) (loopKD (fun T S => N1 (T.getD 1 undefD) (T.getD 52 undefD) (T.getD 53 undefD) (T.getD 54 undefD) S) (blockD 3 (seqD Try.prog E w0 x lo_image_structure cu_image_structure (codeAt [1, 1, 1, 1, 1] (Try.f22.body.getD .skip)) (retD Try.prog Try.f22 Q)))))))
def P_image_structure_97 (E : Env) (w0 : World) (x : Bool) (N1 : D → D → D → D → DSt → Prop) (Q : D → DSt → Prop) (x1 x6 x52 x53 x54 x58 : D) (S : DSt) : Prop :=
  condD x58
  (Q (.int .i64 3) S)
  (optW (loadAg S 3 x1) fun v58 =>
  optW (loadAg S 6 x6) fun v59 =>
  DFn Try.prog E w0 x f_image_mayFunc [v58, v59] S fun v60 S61 =>
  optW (unD .not v60) fun v62 =>
  condD v62
  (Q (.int .i64 130) S61)
  (optW (binI .add x54 (.int .i64 1)) fun v63 =>
  N1 x1 x52 x53 v63 S61))
def C_image_structure_97 (E : Env) (w0 : World) (x : Bool) (N1 : D → D → D → D → DSt → Prop) (Q : D → DSt → Prop) (x1 x6 x52 x53 x54 x58 : D) (S : DSt) : Prop := CodeD Try.prog E w0 x R_image_structure_97 (mkRow 87 [1, 6, 52, 53, 54, 58] [x1, x6, x52, x53, x54, x58]) S (KC_image_structure_97 E w0 x N1 Q)
theorem C_image_structure_97_ok {E : Env} {w0 : World} {x : Bool} {N1 : D → D → D → D → DSt → Prop} {Q : D → DSt → Prop} {x1 x6 x52 x53 x54 x58 : D} {S : DSt} (h : P_image_structure_97 E w0 x N1 Q x1 x6 x52 x53 x54 x58 S) : C_image_structure_97 E w0 x N1 Q x1 x6 x52 x53 x54 x58 S := codeD_of_vc lo_image_structure cu_image_structure mixed (by kernel_rfl) h
noncomputable def L_image_structure_1 : Code := (codeAt [1, 1, 1, 1, 0, 1, 0, 0] (Try.f22.body.getD .skip))
def K_image_structure_1 (E : Env) (w0 : World) (x : Bool) (Q : D → DSt → Prop) : AExit → List D → DSt → Prop :=
  (blockD 3 (seqD Try.prog E w0 x lo_image_structure cu_image_structure (codeAt [1, 1, 1, 1, 1] (Try.f22.body.getD .skip)) (retD Try.prog Try.f22 Q)))
def B_image_structure_1 (E : Env) (w0 : World) (x : Bool) (N1 : D → D → D → D → DSt → Prop) (Q : D → DSt → Prop) (x1 x52 x53 x54 : D) (S : DSt) : Prop :=
  optW (binI .lss x54 x53) fun v51 =>
  condD v51
  (optW (idxSl 6 x52 x54) fun v52 =>
  optW (loadAg S 6 v52) fun v53 =>
  allocD S [(.str []), .nilSlc, .nilSlc, (.int .i64 0), (.int .i64 0), .nilSlc] fun v54 S55 =>
  storeD S55 6 v54 v53 fun v56 S57 =>
  optW (offD 1 v54) fun v64 =>
  optW (loadSc S57 v64) fun v65 =>
  optW (lenSl v65) fun v66 =>
  optW (binI .gtr v66 (.int .i64 32)) fun v67 =>
  condD v67
  (C_image_structure_97 E w0 x N1 Q x1 v54 x52 x53 x54 v67 S57)
  (optW (offD 2 v54) fun v68 =>
  optW (loadSc S57 v68) fun v69 =>
  optW (lenSl v69) fun v70 =>
  optW (binI .gtr v70 (.int .i64 8)) fun v71 =>
  condD v71
  (C_image_structure_97 E w0 x N1 Q x1 v54 x52 x53 x54 v71 S57)
  (optW (offD 3 v54) fun v72 =>
  optW (loadSc S57 v72) fun v73 =>
  optW (binI .gtr v73 (.int .i64 256)) fun v74 =>
  condD v74
  (C_image_structure_97 E w0 x N1 Q x1 v54 x52 x53 x54 v74 S57)
  (optW (offD 4 v54) fun v75 =>
  optW (loadSc S57 v75) fun v76 =>
  optW (binI .gtr v76 (.int .i64 4096)) fun v77 =>
  condD v77
  (C_image_structure_97 E w0 x N1 Q x1 v54 x52 x53 x54 v77 S57)
  (optW (offD 5 v54) fun v78 =>
  optW (loadSc S57 v78) fun v79 =>
  optW (lenSl v79) fun v80 =>
  optW (binI .gtr v80 (.int .i64 65536)) fun v81 =>
  condD v81
  (C_image_structure_97 E w0 x N1 Q x1 v54 x52 x53 x54 v81 S57)
  (optW (offD 0 v54) fun v82 =>
  optW (loadSc S57 v82) fun v83 =>
  optW (lenStr v83) fun v84 =>
  optW (binI .gtr v84 (.int .i64 65536)) fun v85 =>
  C_image_structure_97 E w0 x N1 Q x1 v54 x52 x53 x54 v85 S57))))))
  (Q (.int .i64 0) S)
theorem B_image_structure_1_ok {E : Env} {w0 : World} {x : Bool} {N1 : D → D → D → D → DSt → Prop} {Q : D → DSt → Prop} {x1 x52 x53 x54 : D} {S : DSt} (h : B_image_structure_1 E w0 x N1 Q x1 x52 x53 x54 S) :
    CodeD Try.prog E w0 x L_image_structure_1 (mkRow 87 [1, 52, 53, 54] [x1, x52, x53, x54]) S (loopKD (fun T S => N1 (T.getD 1 undefD) (T.getD 52 undefD) (T.getD 53 undefD) (T.getD 54 undefD) S) (K_image_structure_1 E w0 x Q)) := codeD_of_vc lo_image_structure cu_image_structure mixed (by kernel_rfl) h
theorem loop_image_structure_1 {E : Env} {w0 : World} {x : Bool} {Q : D → DSt → Prop} (I : Nat → D → D → D → D → DSt → Prop)
    (step : ∀ n x1 x52 x53 x54 S, I n x1 x52 x53 x54 S → B_image_structure_1 E w0 x (fun x1 x52 x53 x54 S => ∃ m, m < n ∧ I m x1 x52 x53 x54 S) Q x1 x52 x53 x54 S)
    {n : Nat} {x1 x52 x53 x54 : D} {S : DSt} (h : I n x1 x52 x53 x54 S) : CodeD Try.prog E w0 x (.loop L_image_structure_1) (mkRow 87 [1, 52, 53, 54] [x1, x52, x53, x54]) S (K_image_structure_1 E w0 x Q) :=
  codeD_loop (k := 87) (n := n) (I := fun n T S => I n (T.getD 1 undefD) (T.getD 52 undefD) (T.getD 53 undefD) (T.getD 54 undefD) S) (fun n T S hl hI => codeD_row [1, 52, 53, 54] hl (CodeD.mono (B_image_structure_1_ok (step n _ _ _ _ S hI)) fun ex T' S' _ hq => by cases ex <;> exact hq)) (mkRow_length ..) (Eq.mp (by kernel_rfl) h)
noncomputable def L_image_structure_0 : Code := (codeAt [1, 1, 0, 1, 0, 0] (Try.f22.body.getD .skip))
def K_image_structure_0 (E : Env) (w0 : World) (x : Bool) (Q : D → DSt → Prop) : AExit → List D → DSt → Prop :=
  (blockD 0 (seqD Try.prog E w0 x lo_image_structure cu_image_structure (codeAt [1, 1, 1] (Try.f22.body.getD .skip)) (retD Try.prog Try.f22 Q)))
def B_image_structure_0 (E : Env) (w0 : World) (x : Bool) (N0 : D → D → D → D → DSt → Prop) (Q : D → DSt → Prop) (x1 x24 x25 x26 : D) (S : DSt) : Prop :=
  optW (binI .lss x26 x25) fun v19 =>
  condD v19
  (optW (idxSl 5 x24 x26) fun v20 =>
  optW (loadAg S 5 v20) fun v21 =>
  allocD S [(.int .u8 0), (.str []), .nilSlc, (.int .i64 0), (.int .i64 0)] fun v22 S23 =>
  storeD S23 5 v22 v21 fun v24 S25 =>
  optW (offD 2 v22) fun v32 =>
  optW (loadSc S25 v32) fun v33 =>
  optW (lenSl v33) fun v34 =>
  optW (binI .gtr v34 (.int .i64 32)) fun v35 =>
  condD v35
  (C_image_structure_37 E w0 x N0 Q x1 v22 x24 x25 x26 v35 S25)
  (optW (offD 1 v22) fun v36 =>
  optW (loadSc S25 v36) fun v37 =>
  optW (lenStr v37) fun v38 =>
  optW (binI .gtr v38 (.int .i64 65536)) fun v39 =>
  condD v39
  (C_image_structure_37 E w0 x N0 Q x1 v22 x24 x25 x26 v39 S25)
  (optW (offD 2 v22) fun v40 =>
  optW (loadSc S25 v40) fun v41 =>
  DFn Try.prog E w0 x f_slices_ContainsFunc_api_Field [v41, (.fn (.func f_image_structure_1) [] [])] S25 fun v42 S43 =>
  C_image_structure_37 E w0 x N0 Q x1 v22 x24 x25 x26 v42 S43)))
  (optW (offD 1 x1) fun v44 =>
  optW (loadSc S v44) fun v45 =>
  DFn Try.prog E w0 x f_slices_ContainsFunc_string [v45, (.fn (.func f_image_structure_2) [] [])] S fun v46 S47 =>
  condD v46
  (Q (.int .i64 3) S47)
  (optW (offD 2 x1) fun v48 =>
  optW (loadSc S47 v48) fun v49 =>
  optW (lenSl v49) fun v50 =>
  CodeD Try.prog E w0 x (.loop L_image_structure_1) (mkRow 87 [1, 52, 53, 54] [x1, v49, v50, (.int .i64 0)]) S47 (K_image_structure_1 E w0 x Q)))
theorem B_image_structure_0_ok {E : Env} {w0 : World} {x : Bool} {N0 : D → D → D → D → DSt → Prop} {Q : D → DSt → Prop} {x1 x24 x25 x26 : D} {S : DSt} (h : B_image_structure_0 E w0 x N0 Q x1 x24 x25 x26 S) :
    CodeD Try.prog E w0 x L_image_structure_0 (mkRow 87 [1, 24, 25, 26] [x1, x24, x25, x26]) S (loopKD (fun T S => N0 (T.getD 1 undefD) (T.getD 24 undefD) (T.getD 25 undefD) (T.getD 26 undefD) S) (K_image_structure_0 E w0 x Q)) := codeD_of_vc lo_image_structure cu_image_structure mixed (by kernel_rfl) h
theorem loop_image_structure_0 {E : Env} {w0 : World} {x : Bool} {Q : D → DSt → Prop} (I : Nat → D → D → D → D → DSt → Prop)
    (step : ∀ n x1 x24 x25 x26 S, I n x1 x24 x25 x26 S → B_image_structure_0 E w0 x (fun x1 x24 x25 x26 S => ∃ m, m < n ∧ I m x1 x24 x25 x26 S) Q x1 x24 x25 x26 S)
    {n : Nat} {x1 x24 x25 x26 : D} {S : DSt} (h : I n x1 x24 x25 x26 S) : CodeD Try.prog E w0 x (.loop L_image_structure_0) (mkRow 87 [1, 24, 25, 26] [x1, x24, x25, x26]) S (K_image_structure_0 E w0 x Q) :=
  codeD_loop (k := 87) (n := n) (I := fun n T S => I n (T.getD 1 undefD) (T.getD 24 undefD) (T.getD 25 undefD) (T.getD 26 undefD) S) (fun n T S hl hI => codeD_row [1, 24, 25, 26] hl (CodeD.mono (B_image_structure_0_ok (step n _ _ _ _ S hI)) fun ex T' S' _ hq => by cases ex <;> exact hq)) (mkRow_length ..) (Eq.mp (by kernel_rfl) h)
def V_image_structure (E : Env) (w0 : World) (x : Bool) (Q : D → DSt → Prop) (a0 : D) (S : DSt) : Prop :=
  optW (cellsD a0) fun cs => allocD S cs fun v0 S1 =>
  optW (offD 0 v0) fun v2 =>
  optW (loadSc S1 v2) fun v3 =>
  optW (lenSl v3) fun v4 =>
  optW (binI .gtr v4 (.int .i64 256)) fun v5 =>
  optW (valGD (wantsD v5 false) (offD 1 v0)) fun v6 =>
  optW (valGD (wantsD v5 false) (loadSc S1 v6)) fun v7 =>
  optW (valGD (wantsD v5 false) (lenSl v7)) fun v8 =>
  optW (valGD (wantsD v5 false) (binI .gtr v8 (.int .i64 32768))) fun v9 =>
  optW (pickD v5 (.bool true) v9) fun v10 =>
  optW (valGD (wantsD v10 false) (offD 2 v0)) fun v11 =>
  optW (valGD (wantsD v10 false) (loadSc S1 v11)) fun v12 =>
  optW (valGD (wantsD v10 false) (lenSl v12)) fun v13 =>
  optW (valGD (wantsD v10 false) (binI .gtr v13 (.int .i64 256))) fun v14 =>
  optW (pickD v10 (.bool true) v14) fun v15 =>
  condD v15
  (Q (.int .i64 3) S1)
  (optW (offD 0 v0) fun v16 =>
  optW (loadSc S1 v16) fun v17 =>
  optW (lenSl v17) fun v18 =>
  CodeD Try.prog E w0 x (.loop L_image_structure_0) (mkRow 87 [1, 24, 25, 26] [v0, v17, v18, (.int .i64 0)]) S1 (K_image_structure_0 E w0 x Q))
theorem V_image_structure_ok {E : Env} {w0 : World} {x : Bool} {Q : D → DSt → Prop} {a0 : D} {S : DSt} (h : V_image_structure E w0 x (FinD E Q) a0 S) : DFn Try.prog E w0 x f_image_structure [a0] S Q :=
  fnD_of_vc lo_image_structure cu_image_structure (fn := Try.f22) (c := Try.f22.body.getD .skip) mixed Try.func22 (by kernel_rfl) (by kernel_rfl) h

/- trammel/image.structure$1 -/
def lo_image_structure_1 : List (Nat × List Nat) := []
def cu_image_structure_1 : List (Nat × List Nat) := []
def V_image_structure_1 (E : Env) (w0 : World) (x : Bool) (Q : D → DSt → Prop) (a0 : D) (S : DSt) : Prop :=
  optW (cellsD a0) fun cs => allocD S cs fun v0 S1 =>
  optW (offD 0 v0) fun v2 =>
  optW (loadSc S1 v2) fun v3 =>
  optW (lenStr v3) fun v4 =>
  optW (binI .gtr v4 (.int .i64 65536)) fun v5 =>
  Q v5 S1
theorem V_image_structure_1_ok {E : Env} {w0 : World} {x : Bool} {Q : D → DSt → Prop} {a0 : D} {S : DSt} (h : V_image_structure_1 E w0 x (FinD E Q) a0 S) : DFn Try.prog E w0 x f_image_structure_1 [a0] S Q :=
  fnD_of_vc lo_image_structure_1 cu_image_structure_1 (fn := Try.f44) (c := Try.f44.body.getD .skip) mixed Try.func44 (by kernel_rfl) (by kernel_rfl) h

/- trammel/image.structure$2 -/
def lo_image_structure_2 : List (Nat × List Nat) := []
def cu_image_structure_2 : List (Nat × List Nat) := []
def V_image_structure_2 (E : Env) (w0 : World) (x : Bool) (Q : D → DSt → Prop) (a0 : D) (S : DSt) : Prop :=
  optW (lenStr a0) fun v0 =>
  optW (binI .gtr v0 (.int .i64 65536)) fun v1 =>
  Q v1 S
theorem V_image_structure_2_ok {E : Env} {w0 : World} {x : Bool} {Q : D → DSt → Prop} {a0 : D} {S : DSt} (h : V_image_structure_2 E w0 x (FinD E Q) a0 S) : DFn Try.prog E w0 x f_image_structure_2 [a0] S Q :=
  fnD_of_vc lo_image_structure_2 cu_image_structure_2 (fn := Try.f47) (c := Try.f47.body.getD .skip) mixed Try.func47 (by kernel_rfl) (by kernel_rfl) h

/- slices.ContainsFunc[[]trammel/api.Field,trammel/api.Field] -/
def lo_slices_ContainsFunc_api_Field : List (Nat × List Nat) := []
def cu_slices_ContainsFunc_api_Field : List (Nat × List Nat) := []
def V_slices_ContainsFunc_api_Field (E : Env) (w0 : World) (x : Bool) (Q : D → DSt → Prop) (a0 a1 : D) (S : DSt) : Prop :=
  DFn Try.prog E w0 x f_slices_IndexFunc_api_Field [a0, a1] S fun v0 S1 =>
  optW (binI .geq v0 (.int .i64 0)) fun v2 =>
  Q v2 S1
theorem V_slices_ContainsFunc_api_Field_ok {E : Env} {w0 : World} {x : Bool} {Q : D → DSt → Prop} {a0 a1 : D} {S : DSt} (h : V_slices_ContainsFunc_api_Field E w0 x (FinD E Q) a0 a1 S) : DFn Try.prog E w0 x f_slices_ContainsFunc_api_Field [a0, a1] S Q :=
  fnD_of_vc lo_slices_ContainsFunc_api_Field cu_slices_ContainsFunc_api_Field (fn := Try.f43) (c := Try.f43.body.getD .skip) mixed Try.func43 (by kernel_rfl) (by kernel_rfl) h

/- slices.ContainsFunc[[]string,string] -/
def lo_slices_ContainsFunc_string : List (Nat × List Nat) := []
def cu_slices_ContainsFunc_string : List (Nat × List Nat) := []
def V_slices_ContainsFunc_string (E : Env) (w0 : World) (x : Bool) (Q : D → DSt → Prop) (a0 a1 : D) (S : DSt) : Prop :=
  DFn Try.prog E w0 x f_slices_IndexFunc_string [a0, a1] S fun v0 S1 =>
  optW (binI .geq v0 (.int .i64 0)) fun v2 =>
  Q v2 S1
theorem V_slices_ContainsFunc_string_ok {E : Env} {w0 : World} {x : Bool} {Q : D → DSt → Prop} {a0 a1 : D} {S : DSt} (h : V_slices_ContainsFunc_string E w0 x (FinD E Q) a0 a1 S) : DFn Try.prog E w0 x f_slices_ContainsFunc_string [a0, a1] S Q :=
  fnD_of_vc lo_slices_ContainsFunc_string cu_slices_ContainsFunc_string (fn := Try.f46) (c := Try.f46.body.getD .skip) mixed Try.func46 (by kernel_rfl) (by kernel_rfl) h

/- slices.ContainsFunc[[]int,int] -/
def lo_slices_ContainsFunc_int : List (Nat × List Nat) := []
def cu_slices_ContainsFunc_int : List (Nat × List Nat) := []
def V_slices_ContainsFunc_int (E : Env) (w0 : World) (x : Bool) (Q : D → DSt → Prop) (a0 a1 : D) (S : DSt) : Prop :=
  DFn Try.prog E w0 x f_slices_IndexFunc_int [a0, a1] S fun v0 S1 =>
  optW (binI .geq v0 (.int .i64 0)) fun v2 =>
  Q v2 S1
theorem V_slices_ContainsFunc_int_ok {E : Env} {w0 : World} {x : Bool} {Q : D → DSt → Prop} {a0 a1 : D} {S : DSt} (h : V_slices_ContainsFunc_int E w0 x (FinD E Q) a0 a1 S) : DFn Try.prog E w0 x f_slices_ContainsFunc_int [a0, a1] S Q :=
  fnD_of_vc lo_slices_ContainsFunc_int cu_slices_ContainsFunc_int (fn := Try.f73) (c := Try.f73.body.getD .skip) mixed Try.func73 (by kernel_rfl) (by kernel_rfl) h

/- slices.ContainsFunc[[]trammel/api.Instr,trammel/api.Instr] -/
def lo_slices_ContainsFunc_api_Instr : List (Nat × List Nat) := []
def cu_slices_ContainsFunc_api_Instr : List (Nat × List Nat) := []
def V_slices_ContainsFunc_api_Instr (E : Env) (w0 : World) (x : Bool) (Q : D → DSt → Prop) (a0 a1 : D) (S : DSt) : Prop :=
  DFn Try.prog E w0 x f_slices_IndexFunc_api_Instr [a0, a1] S fun v0 S1 =>
  optW (binI .geq v0 (.int .i64 0)) fun v2 =>
  Q v2 S1
theorem V_slices_ContainsFunc_api_Instr_ok {E : Env} {w0 : World} {x : Bool} {Q : D → DSt → Prop} {a0 a1 : D} {S : DSt} (h : V_slices_ContainsFunc_api_Instr E w0 x (FinD E Q) a0 a1 S) : DFn Try.prog E w0 x f_slices_ContainsFunc_api_Instr [a0, a1] S Q :=
  fnD_of_vc lo_slices_ContainsFunc_api_Instr cu_slices_ContainsFunc_api_Instr (fn := Try.f75) (c := Try.f75.body.getD .skip) mixed Try.func75 (by kernel_rfl) (by kernel_rfl) h

/- slices.IndexFunc[[]trammel/api.Field,trammel/api.Field] -/
def lo_slices_IndexFunc_api_Field : List (Nat × List Nat) := [(4, [0, 1, 7, 8])]
def cu_slices_IndexFunc_api_Field : List (Nat × List Nat) := []
noncomputable def L_slices_IndexFunc_api_Field_0 : Code := (codeAt [1, 0, 1, 0, 0] (Try.f68.body.getD .skip))
def K_slices_IndexFunc_api_Field_0 (E : Env) (w0 : World) (x : Bool) (Q : D → DSt → Prop) : AExit → List D → DSt → Prop :=
  (blockD 0 (seqD Try.prog E w0 x lo_slices_IndexFunc_api_Field cu_slices_IndexFunc_api_Field (codeAt [1, 1] (Try.f68.body.getD .skip)) (retD Try.prog Try.f68 Q)))
def B_slices_IndexFunc_api_Field_0 (E : Env) (w0 : World) (x : Bool) (N0 : D → D → D → D → DSt → Prop) (Q : D → DSt → Prop) (x0 x1 x7 x8 : D) (S : DSt) : Prop :=
  optW (binI .lss x8 x7) fun v1 =>
  condD v1
  (optW (idxSl 2 x0 x8) fun v2 =>
  optW (loadAg S 2 v2) fun v3 =>
  callVD Try.prog (DFn Try.prog E w0 x) S x1 [v3] fun v4 S5 =>
  condD v4
  (Q x8 S5)
  (optW (binI .add x8 (.int .i64 1)) fun v6 =>
  N0 x0 x1 x7 v6 S5))
  (Q (.int .i64 (-1)) S)
theorem B_slices_IndexFunc_api_Field_0_ok {E : Env} {w0 : World} {x : Bool} {N0 : D → D → D → D → DSt → Prop} {Q : D → DSt → Prop} {x0 x1 x7 x8 : D} {S : DSt} (h : B_slices_IndexFunc_api_Field_0 E w0 x N0 Q x0 x1 x7 x8 S) :
    CodeD Try.prog E w0 x L_slices_IndexFunc_api_Field_0 (mkRow 19 [0, 1, 7, 8] [x0, x1, x7, x8]) S (loopKD (fun T S => N0 (T.getD 0 undefD) (T.getD 1 undefD) (T.getD 7 undefD) (T.getD 8 undefD) S) (K_slices_IndexFunc_api_Field_0 E w0 x Q)) := codeD_of_vc lo_slices_IndexFunc_api_Field cu_slices_IndexFunc_api_Field mixed (by kernel_rfl) h
theorem loop_slices_IndexFunc_api_Field_0 {E : Env} {w0 : World} {x : Bool} {Q : D → DSt → Prop} (I : Nat → D → D → D → D → DSt → Prop)
    (step : ∀ n x0 x1 x7 x8 S, I n x0 x1 x7 x8 S → B_slices_IndexFunc_api_Field_0 E w0 x (fun x0 x1 x7 x8 S => ∃ m, m < n ∧ I m x0 x1 x7 x8 S) Q x0 x1 x7 x8 S)
    {n : Nat} {x0 x1 x7 x8 : D} {S : DSt} (h : I n x0 x1 x7 x8 S) : CodeD Try.prog E w0 x (.loop L_slices_IndexFunc_api_Field_0) (mkRow 19 [0, 1, 7, 8] [x0, x1, x7, x8]) S (K_slices_IndexFunc_api_Field_0 E w0 x Q) :=
  codeD_loop (k := 19) (n := n) (I := fun n T S => I n (T.getD 0 undefD) (T.getD 1 undefD) (T.getD 7 undefD) (T.getD 8 undefD) S) (fun n T S hl hI => codeD_row [0, 1, 7, 8] hl (CodeD.mono (B_slices_IndexFunc_api_Field_0_ok (step n _ _ _ _ S hI)) fun ex T' S' _ hq => by cases ex <;> exact hq)) (mkRow_length ..) (Eq.mp (by kernel_rfl) h)
def V_slices_IndexFunc_api_Field (E : Env) (w0 : World) (x : Bool) (Q : D → DSt → Prop) (a0 a1 : D) (S : DSt) : Prop :=
  optW (lenSl a0) fun v0 =>
  CodeD Try.prog E w0 x (.loop L_slices_IndexFunc_api_Field_0) (mkRow 19 [0, 1, 7, 8] [a0, a1, v0, (.int .i64 0)]) S (K_slices_IndexFunc_api_Field_0 E w0 x Q)
theorem V_slices_IndexFunc_api_Field_ok {E : Env} {w0 : World} {x : Bool} {Q : D → DSt → Prop} {a0 a1 : D} {S : DSt} (h : V_slices_IndexFunc_api_Field E w0 x (FinD E Q) a0 a1 S) : DFn Try.prog E w0 x f_slices_IndexFunc_api_Field [a0, a1] S Q :=
  fnD_of_vc lo_slices_IndexFunc_api_Field cu_slices_IndexFunc_api_Field (fn := Try.f68) (c := Try.f68.body.getD .skip) mixed Try.func68 (by kernel_rfl) (by kernel_rfl) h

/- slices.IndexFunc[[]string,string] -/
def lo_slices_IndexFunc_string : List (Nat × List Nat) := [(4, [0, 1, 7, 8])]
def cu_slices_IndexFunc_string : List (Nat × List Nat) := []
noncomputable def L_slices_IndexFunc_string_0 : Code := (codeAt [1, 0, 1, 0, 0] (Try.f71.body.getD .skip))
def K_slices_IndexFunc_string_0 (E : Env) (w0 : World) (x : Bool) (Q : D → DSt → Prop) : AExit → List D → DSt → Prop :=
  (blockD 0 (seqD Try.prog E w0 x lo_slices_IndexFunc_string cu_slices_IndexFunc_string (codeAt [1, 1] (Try.f71.body.getD .skip)) (retD Try.prog Try.f71 Q)))
def B_slices_IndexFunc_string_0 (E : Env) (w0 : World) (x : Bool) (N0 : D → D → D → D → DSt → Prop) (Q : D → DSt → Prop) (x0 x1 x7 x8 : D) (S : DSt) : Prop :=
  optW (binI .lss x8 x7) fun v1 =>
  condD v1
  (optW (idxSl 1 x0 x8) fun v2 =>
  optW (loadSc S v2) fun v3 =>
  callVD Try.prog (DFn Try.prog E w0 x) S x1 [v3] fun v4 S5 =>
  condD v4
  (Q x8 S5)
  (optW (binI .add x8 (.int .i64 1)) fun v6 =>
  N0 x0 x1 x7 v6 S5))
  (Q (.int .i64 (-1)) S)
theorem B_slices_IndexFunc_string_0_ok {E : Env} {w0 : World} {x : Bool} {N0 : D → D → D → D → DSt → Prop} {Q : D → DSt → Prop} {x0 x1 x7 x8 : D} {S : DSt} (h : B_slices_IndexFunc_string_0 E w0 x N0 Q x0 x1 x7 x8 S) :
    CodeD Try.prog E w0 x L_slices_IndexFunc_string_0 (mkRow 19 [0, 1, 7, 8] [x0, x1, x7, x8]) S (loopKD (fun T S => N0 (T.getD 0 undefD) (T.getD 1 undefD) (T.getD 7 undefD) (T.getD 8 undefD) S) (K_slices_IndexFunc_string_0 E w0 x Q)) := codeD_of_vc lo_slices_IndexFunc_string cu_slices_IndexFunc_string mixed (by kernel_rfl) h
theorem loop_slices_IndexFunc_string_0 {E : Env} {w0 : World} {x : Bool} {Q : D → DSt → Prop} (I : Nat → D → D → D → D → DSt → Prop)
    (step : ∀ n x0 x1 x7 x8 S, I n x0 x1 x7 x8 S → B_slices_IndexFunc_string_0 E w0 x (fun x0 x1 x7 x8 S => ∃ m, m < n ∧ I m x0 x1 x7 x8 S) Q x0 x1 x7 x8 S)
    {n : Nat} {x0 x1 x7 x8 : D} {S : DSt} (h : I n x0 x1 x7 x8 S) : CodeD Try.prog E w0 x (.loop L_slices_IndexFunc_string_0) (mkRow 19 [0, 1, 7, 8] [x0, x1, x7, x8]) S (K_slices_IndexFunc_string_0 E w0 x Q) :=
  codeD_loop (k := 19) (n := n) (I := fun n T S => I n (T.getD 0 undefD) (T.getD 1 undefD) (T.getD 7 undefD) (T.getD 8 undefD) S) (fun n T S hl hI => codeD_row [0, 1, 7, 8] hl (CodeD.mono (B_slices_IndexFunc_string_0_ok (step n _ _ _ _ S hI)) fun ex T' S' _ hq => by cases ex <;> exact hq)) (mkRow_length ..) (Eq.mp (by kernel_rfl) h)
def V_slices_IndexFunc_string (E : Env) (w0 : World) (x : Bool) (Q : D → DSt → Prop) (a0 a1 : D) (S : DSt) : Prop :=
  optW (lenSl a0) fun v0 =>
  CodeD Try.prog E w0 x (.loop L_slices_IndexFunc_string_0) (mkRow 19 [0, 1, 7, 8] [a0, a1, v0, (.int .i64 0)]) S (K_slices_IndexFunc_string_0 E w0 x Q)
theorem V_slices_IndexFunc_string_ok {E : Env} {w0 : World} {x : Bool} {Q : D → DSt → Prop} {a0 a1 : D} {S : DSt} (h : V_slices_IndexFunc_string E w0 x (FinD E Q) a0 a1 S) : DFn Try.prog E w0 x f_slices_IndexFunc_string [a0, a1] S Q :=
  fnD_of_vc lo_slices_IndexFunc_string cu_slices_IndexFunc_string (fn := Try.f71) (c := Try.f71.body.getD .skip) mixed Try.func71 (by kernel_rfl) (by kernel_rfl) h

/- slices.IndexFunc[[]int,int] -/
def lo_slices_IndexFunc_int : List (Nat × List Nat) := [(4, [0, 1, 7, 8])]
def cu_slices_IndexFunc_int : List (Nat × List Nat) := []
noncomputable def L_slices_IndexFunc_int_0 : Code := (codeAt [1, 0, 1, 0, 0] (Try.f82.body.getD .skip))
def K_slices_IndexFunc_int_0 (E : Env) (w0 : World) (x : Bool) (Q : D → DSt → Prop) : AExit → List D → DSt → Prop :=
  (blockD 0 (seqD Try.prog E w0 x lo_slices_IndexFunc_int cu_slices_IndexFunc_int (codeAt [1, 1] (Try.f82.body.getD .skip)) (retD Try.prog Try.f82 Q)))
def B_slices_IndexFunc_int_0 (E : Env) (w0 : World) (x : Bool) (N0 : D → D → D → D → DSt → Prop) (Q : D → DSt → Prop) (x0 x1 x7 x8 : D) (S : DSt) : Prop :=
  optW (binI .lss x8 x7) fun v1 =>
  condD v1
  (optW (idxSl 1 x0 x8) fun v2 =>
  optW (loadSc S v2) fun v3 =>
  callVD Try.prog (DFn Try.prog E w0 x) S x1 [v3] fun v4 S5 =>
  condD v4
  (Q x8 S5)
  (optW (binI .add x8 (.int .i64 1)) fun v6 =>
  N0 x0 x1 x7 v6 S5))
  (Q (.int .i64 (-1)) S)
theorem B_slices_IndexFunc_int_0_ok {E : Env} {w0 : World} {x : Bool} {N0 : D → D → D → D → DSt → Prop} {Q : D → DSt → Prop} {x0 x1 x7 x8 : D} {S : DSt} (h : B_slices_IndexFunc_int_0 E w0 x N0 Q x0 x1 x7 x8 S) :
    CodeD Try.prog E w0 x L_slices_IndexFunc_int_0 (mkRow 19 [0, 1, 7, 8] [x0, x1, x7, x8]) S (loopKD (fun T S => N0 (T.getD 0 undefD) (T.getD 1 undefD) (T.getD 7 undefD) (T.getD 8 undefD) S) (K_slices_IndexFunc_int_0 E w0 x Q)) := codeD_of_vc lo_slices_IndexFunc_int cu_slices_IndexFunc_int mixed (by kernel_rfl) h
theorem loop_slices_IndexFunc_int_0 {E : Env} {w0 : World} {x : Bool} {Q : D → DSt → Prop} (I : Nat → D → D → D → D → DSt → Prop)
    (step : ∀ n x0 x1 x7 x8 S, I n x0 x1 x7 x8 S → B_slices_IndexFunc_int_0 E w0 x (fun x0 x1 x7 x8 S => ∃ m, m < n ∧ I m x0 x1 x7 x8 S) Q x0 x1 x7 x8 S)
    {n : Nat} {x0 x1 x7 x8 : D} {S : DSt} (h : I n x0 x1 x7 x8 S) : CodeD Try.prog E w0 x (.loop L_slices_IndexFunc_int_0) (mkRow 19 [0, 1, 7, 8] [x0, x1, x7, x8]) S (K_slices_IndexFunc_int_0 E w0 x Q) :=
  codeD_loop (k := 19) (n := n) (I := fun n T S => I n (T.getD 0 undefD) (T.getD 1 undefD) (T.getD 7 undefD) (T.getD 8 undefD) S) (fun n T S hl hI => codeD_row [0, 1, 7, 8] hl (CodeD.mono (B_slices_IndexFunc_int_0_ok (step n _ _ _ _ S hI)) fun ex T' S' _ hq => by cases ex <;> exact hq)) (mkRow_length ..) (Eq.mp (by kernel_rfl) h)
def V_slices_IndexFunc_int (E : Env) (w0 : World) (x : Bool) (Q : D → DSt → Prop) (a0 a1 : D) (S : DSt) : Prop :=
  optW (lenSl a0) fun v0 =>
  CodeD Try.prog E w0 x (.loop L_slices_IndexFunc_int_0) (mkRow 19 [0, 1, 7, 8] [a0, a1, v0, (.int .i64 0)]) S (K_slices_IndexFunc_int_0 E w0 x Q)
theorem V_slices_IndexFunc_int_ok {E : Env} {w0 : World} {x : Bool} {Q : D → DSt → Prop} {a0 a1 : D} {S : DSt} (h : V_slices_IndexFunc_int E w0 x (FinD E Q) a0 a1 S) : DFn Try.prog E w0 x f_slices_IndexFunc_int [a0, a1] S Q :=
  fnD_of_vc lo_slices_IndexFunc_int cu_slices_IndexFunc_int (fn := Try.f82) (c := Try.f82.body.getD .skip) mixed Try.func82 (by kernel_rfl) (by kernel_rfl) h

/- slices.IndexFunc[[]trammel/api.Instr,trammel/api.Instr] -/
def lo_slices_IndexFunc_api_Instr : List (Nat × List Nat) := [(4, [0, 1, 7, 8])]
def cu_slices_IndexFunc_api_Instr : List (Nat × List Nat) := []
noncomputable def L_slices_IndexFunc_api_Instr_0 : Code := (codeAt [1, 0, 1, 0, 0] (Try.f84.body.getD .skip))
def K_slices_IndexFunc_api_Instr_0 (E : Env) (w0 : World) (x : Bool) (Q : D → DSt → Prop) : AExit → List D → DSt → Prop :=
  (blockD 0 (seqD Try.prog E w0 x lo_slices_IndexFunc_api_Instr cu_slices_IndexFunc_api_Instr (codeAt [1, 1] (Try.f84.body.getD .skip)) (retD Try.prog Try.f84 Q)))
def B_slices_IndexFunc_api_Instr_0 (E : Env) (w0 : World) (x : Bool) (N0 : D → D → D → D → DSt → Prop) (Q : D → DSt → Prop) (x0 x1 x7 x8 : D) (S : DSt) : Prop :=
  optW (binI .lss x8 x7) fun v1 =>
  condD v1
  (optW (idxSl 4 x0 x8) fun v2 =>
  optW (loadAg S 4 v2) fun v3 =>
  callVD Try.prog (DFn Try.prog E w0 x) S x1 [v3] fun v4 S5 =>
  condD v4
  (Q x8 S5)
  (optW (binI .add x8 (.int .i64 1)) fun v6 =>
  N0 x0 x1 x7 v6 S5))
  (Q (.int .i64 (-1)) S)
theorem B_slices_IndexFunc_api_Instr_0_ok {E : Env} {w0 : World} {x : Bool} {N0 : D → D → D → D → DSt → Prop} {Q : D → DSt → Prop} {x0 x1 x7 x8 : D} {S : DSt} (h : B_slices_IndexFunc_api_Instr_0 E w0 x N0 Q x0 x1 x7 x8 S) :
    CodeD Try.prog E w0 x L_slices_IndexFunc_api_Instr_0 (mkRow 19 [0, 1, 7, 8] [x0, x1, x7, x8]) S (loopKD (fun T S => N0 (T.getD 0 undefD) (T.getD 1 undefD) (T.getD 7 undefD) (T.getD 8 undefD) S) (K_slices_IndexFunc_api_Instr_0 E w0 x Q)) := codeD_of_vc lo_slices_IndexFunc_api_Instr cu_slices_IndexFunc_api_Instr mixed (by kernel_rfl) h
theorem loop_slices_IndexFunc_api_Instr_0 {E : Env} {w0 : World} {x : Bool} {Q : D → DSt → Prop} (I : Nat → D → D → D → D → DSt → Prop)
    (step : ∀ n x0 x1 x7 x8 S, I n x0 x1 x7 x8 S → B_slices_IndexFunc_api_Instr_0 E w0 x (fun x0 x1 x7 x8 S => ∃ m, m < n ∧ I m x0 x1 x7 x8 S) Q x0 x1 x7 x8 S)
    {n : Nat} {x0 x1 x7 x8 : D} {S : DSt} (h : I n x0 x1 x7 x8 S) : CodeD Try.prog E w0 x (.loop L_slices_IndexFunc_api_Instr_0) (mkRow 19 [0, 1, 7, 8] [x0, x1, x7, x8]) S (K_slices_IndexFunc_api_Instr_0 E w0 x Q) :=
  codeD_loop (k := 19) (n := n) (I := fun n T S => I n (T.getD 0 undefD) (T.getD 1 undefD) (T.getD 7 undefD) (T.getD 8 undefD) S) (fun n T S hl hI => codeD_row [0, 1, 7, 8] hl (CodeD.mono (B_slices_IndexFunc_api_Instr_0_ok (step n _ _ _ _ S hI)) fun ex T' S' _ hq => by cases ex <;> exact hq)) (mkRow_length ..) (Eq.mp (by kernel_rfl) h)
def V_slices_IndexFunc_api_Instr (E : Env) (w0 : World) (x : Bool) (Q : D → DSt → Prop) (a0 a1 : D) (S : DSt) : Prop :=
  optW (lenSl a0) fun v0 =>
  CodeD Try.prog E w0 x (.loop L_slices_IndexFunc_api_Instr_0) (mkRow 19 [0, 1, 7, 8] [a0, a1, v0, (.int .i64 0)]) S (K_slices_IndexFunc_api_Instr_0 E w0 x Q)
theorem V_slices_IndexFunc_api_Instr_ok {E : Env} {w0 : World} {x : Bool} {Q : D → DSt → Prop} {a0 a1 : D} {S : DSt} (h : V_slices_IndexFunc_api_Instr E w0 x (FinD E Q) a0 a1 S) : DFn Try.prog E w0 x f_slices_IndexFunc_api_Instr [a0, a1] S Q :=
  fnD_of_vc lo_slices_IndexFunc_api_Instr cu_slices_IndexFunc_api_Instr (fn := Try.f84) (c := Try.f84.body.getD .skip) mixed Try.func84 (by kernel_rfl) (by kernel_rfl) h
end Go.Proofs.Ytchnpgddpaonhaa.d
end
