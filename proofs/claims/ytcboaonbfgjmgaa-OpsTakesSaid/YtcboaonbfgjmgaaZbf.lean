/-
  Texts Cu Cv Cw Cx, as far as they are used.
-/
import Derived.Test.YtcboaonbfgjmgaaZbe
section
open Go.Proofs Go Go.Am Go.Op
namespace Go.Proofs.Ytcboaonbfgjmgaa.d
set_option linter.unusedVariables false
set_option linter.unusedSimpArgs false
set_option maxRecDepth 100000
theorem Own.swap {S0 S1 S : DSt} {t u : D} {r q : List Int} (h : Own S0 t r S1) (h' : Own S1 u q S) : ∃ S2, Own S0 u q S2 ∧ Own S2 t r S := by
  rcases h with ⟨rfl, rfl, rfl⟩ | ⟨k, acs, ex, hk, rfl, rfl⟩
  · exact ⟨S, h', .inl ⟨rfl, rfl, rfl⟩⟩
  · rcases h' with ⟨rfl, rfl, rfl⟩ | ⟨l, bcs, ex', hl, rfl, rfl⟩
    · exact ⟨S0, .inl ⟨rfl, rfl, rfl⟩, .inr ⟨k, acs, ex, hk, rfl, rfl⟩⟩
    · obtain ⟨hne, hl0⟩ := DSt.fresh hl
      refine ⟨S0.set l ⟨1, iC q, bcs⟩, .inr ⟨l, bcs, ex', hl0, rfl, rfl⟩, .inr ⟨k, acs, ex, ?_, rfl, ?_⟩⟩
      · rw [DSt.set_ne _ _ _ (Ne.symm hne)]; exact hk
      · exact DSt.set_comm _ (Ne.symm hne) _ _
/-- An effect whose lists are one's own. -/
def EfQ (S : DSt) (r : List Int × List Int × Bool) (v : D) (S' : DSt) : Prop := ∃ c d, v = efD c d r.2.2 ∧ Two S c r.1 d r.2.1 S'
section
variable {E : Env} {w0 : World} {S S3 : DSt} {k2 : Nat} {cs : List D} {a2 : List AV}
/-- What an effect's function ends with. -/
theorem endEf (hle : S.le S3) (hn : S k2 = none) (h2 : S3 k2 = some ⟨3, [cs], a2⟩) (hcs : cs.length = 3) {r : List Int × List Int × Bool} {c d : D} {S' : DSt} (g : Two S3 c r.1 d r.2.1 S') :
    storeD S' 3 (.ptr k2 0) (efD c d r.2.2) fun _ S8 => optW (loadAg S8 3 (.ptr k2 0)) fun z => FinD E (EfQ S r) z S8 := by
  refine stP (ds := [c, d, .bool r.2.2]) (g.le _ _ h2) (clA _) ⟨rfl, by decide, by omega⟩ fun a3 => ?_
  have e : setManyD cs 0 [c, d, .bool r.2.2] = [c, d, .bool r.2.2] := by
    rcases cs with _ | ⟨x, _ | ⟨y, _ | ⟨z, _ | ⟨w, cs⟩⟩⟩⟩ <;> simp at hcs
    rfl
  rw [e, laP (DSt.set_same _ _ _) (by simp), oD]
  have g' := g.upd (o := ⟨3, [[c, d, .bool r.2.2]], a3⟩) h2
  obtain ⟨S'', l, g''⟩ := g'.base (DSt.le_set hle hn)
  exact FinD.less l (FinD.here ⟨c, d, rfl, g''⟩)
theorem endEf' (hle : S.le S3) (hn : S k2 = none) (h2 : S3 k2 = some ⟨3, [[.nilSlc, .nilSlc, .bool false]], a2⟩) {r : List Int × List Int × Bool} {c d : D} {S' : DSt} (g : Two S3 c r.1 d r.2.1 S') :
    storeD S' 3 (.ptr k2 0) (efD c d r.2.2) fun _ S8 => True ∧ optW (loadAg S8 3 (.ptr k2 0)) fun z => FinD E (EfQ S r) z S8 := by
  have h := endEf (E := E) hle hn h2 rfl g
  simp only [true_and]
  exact h
variable (hle : S.le S3) (hn : S k2 = none) (h2 : S3 k2 = some ⟨3, [cs], a2⟩) (hcs : cs.length = 3) {x : Bool}
include hle hn h2 hcs
theorem efLL {r : List Int × List Int × Bool} (hr : r.2.2 = true) : litD S3 1 (some (iC r.1)) r.1.length fun v S4 => DFn Try.prog E w0 x f_ops_of [v] S4 fun w S5 => litD S5 1 (some (iC r.2.1)) r.2.1.length fun v' S6 => DFn Try.prog E w0 x f_ops_effect_gives [w, v'] S6 fun u S7 =>
    storeD S7 3 (.ptr k2 0) u fun _ S8 => optW (loadAg S8 3 (.ptr k2 0)) fun z => FinD E (EfQ S r) z S8 := by
  refine lit_own fun v S4 g1 => (ops_of_ok g1.cells).use (lit_own fun v' S6 g2 => ?_)
  refine (ops_gives_ok (a := v) (b := .nilSlc) (c := .bool true) g2.cells).use ?_
  rw [← hr]
  exact endEf hle hn h2 hcs ⟨S4, g1, g2⟩
theorem efNL {r : List Int × List Int × Bool} (hr : r.2.2 = true) (h1 : r.1 = []) : DFn Try.prog E w0 x f_ops_of [.nilSlc] S3 fun w S5 => litD S5 1 (some (iC r.2.1)) r.2.1.length fun v' S6 => DFn Try.prog E w0 x f_ops_effect_gives [w, v'] S6 fun u S7 =>
    storeD S7 3 (.ptr k2 0) u fun _ S8 => optW (loadAg S8 3 (.ptr k2 0)) fun z => FinD E (EfQ S r) z S8 := by
  refine (ops_of_ok clN).use (lit_own fun v' S6 g2 => ?_)
  refine (ops_gives_ok (a := .nilSlc) (b := .nilSlc) (c := .bool true) g2.cells).use ?_
  rw [← hr]
  exact endEf hle hn h2 hcs ⟨S3, by rw [h1]; exact Own.nil _, g2⟩
theorem efLN {r : List Int × List Int × Bool} (hr : r.2.2 = true) (h1 : r.2.1 = []) : litD S3 1 (some (iC r.1)) r.1.length fun v S4 => DFn Try.prog E w0 x f_ops_of [v] S4 fun u S7 =>
    storeD S7 3 (.ptr k2 0) u fun _ S8 => optW (loadAg S8 3 (.ptr k2 0)) fun z => FinD E (EfQ S r) z S8 := by
  refine lit_own fun v S4 g1 => (ops_of_ok g1.cells).use ?_
  rw [← hr]
  exact endEf hle hn h2 hcs ⟨S4, g1, by rw [h1]; exact Own.nil _⟩
theorem efNN {r : List Int × List Int × Bool} (hr : r.2.2 = true) (h1 : r.1 = []) (h3 : r.2.1 = []) : DFn Try.prog E w0 x f_ops_of [.nilSlc] S3 fun u S7 =>
    storeD S7 3 (.ptr k2 0) u fun _ S8 => optW (loadAg S8 3 (.ptr k2 0)) fun z => FinD E (EfQ S r) z S8 := by
  refine (ops_of_ok clN).use ?_
  rw [← hr]
  exact endEf hle hn h2 hcs ⟨S3, by rw [h1]; exact Own.nil _, by rw [h3]; exact Own.nil _⟩
end
theorem orC {op p : Int} {R : Prop} [Decidable R] {C : D → Prop} {T : Prop} (h : C (.bool (decide (op = p ∨ R)))) (hT : C (.bool (decide R)) → T) : optW (binI .eql (.int .u8 op) (.int .u8 p)) fun v => condD v (C v) T := by
  rw [biEq, oD, beqD]
  by_cases c : op = p
  · rw [decide_eq_true (Or.inl c)] at h
    rw [decide_eq_true c, cdT]
    exact h
  · have e : decide (op = p ∨ R) = decide R := by simp [c]
    rw [e] at h
    rw [decide_eq_false c, cdF]
    exact hT h
section
variable {E : Env} {w0 : World} {S S3 : DSt} {k k2 : Nat} {a a2 : List AV} {y : In}
variable (hle : S.le S3) (hn : S k2 = none) (h0 : S3 k = some ⟨4, [inC y], a⟩) (h2 : S3 k2 = some ⟨3, [[.nilSlc, .nilSlc, .bool false]], a2⟩)
include hle hn h2
theorem plain_197 (h : ¬ (y.op = 46 ∨ y.op = 51 ∨ y.op = 52) → 11 ≤ y.op ∧ y.op ≤ 20) : C_ops_plain_197 E w0 false (FinD E (EfQ S ((plainS y).1, (plainS y).2, true))) (.ptr k2 0) (.int .i64 y.a) (.bool (decide (y.op = 46 ∨ y.op = 51 ∨ y.op = 52))) S3 := by
  refine C_ops_plain_197_ok ?_
  unfold P_ops_plain_197
  rw [cdI]
  refine ⟨fun h1 => ?_, fun h1 => ?_⟩
  · have e : plainS y = ([], []) := by
      unfold plainS
      repeat rw [if_neg (by omega)]
      try rw [if_pos (by omega)]
    rw [e]
    exact efNN hle hn h2 rfl rfl rfl rfl
  · have h := h h1
    have e : plainS y = ([y.a, y.a], [y.a]) := by
      unfold plainS
      repeat rw [if_neg (by omega)]
      try rw [if_pos (by omega)]
    rw [e]
    exact efLL (r := ([y.a, y.a], [y.a], true)) hle hn h2 rfl rfl
theorem plain_173 (hv : y.op = 47 ∨ y.op = 48 ∨ y.op = 49 ∨ y.op = 46 ∨ y.op = 51 ∨ y.op = 52 ∨ (11 ≤ y.op ∧ y.op ≤ 20)) : C_ops_plain_173 E w0 false (FinD E (EfQ S ((plainS y).1, (plainS y).2, true))) (.ptr k2 0) (.int .i64 y.a) (.int .u8 y.op) (.bool (decide (y.op = 47 ∨ y.op = 48))) S3 := by
  refine C_ops_plain_173_ok ?_
  unfold P_ops_plain_173
  rw [cdI]
  refine ⟨fun hf => ?_, fun hf => ?_⟩
  · have e : plainS y = ([4], []) := by
      unfold plainS
      repeat rw [if_neg (by omega)]
      try rw [if_pos (by omega)]
    rw [e]
    exact efLN (r := ([4], [], true)) hle hn h2 rfl rfl rfl
  refine tEq ?_
  rw [cdI]
  refine ⟨fun h49 => ?_, fun h49 => ?_⟩
  · have e : plainS y = ([y.a], []) := by
      unfold plainS
      repeat rw [if_neg (by omega)]
      try rw [if_pos (by omega)]
    rw [e]
    exact efLN (r := ([y.a], [], true)) hle hn h2 rfl rfl rfl
  exact orC (C := fun b => C_ops_plain_197 E w0 false _ _ _ b S3) (plain_197 hle hn h2 fun h => by omega) fun h => orC h fun h => tEq h
include h0
theorem plain_105 (hv : (23 ≤ y.op ∧ y.op ≤ 35) ∨ y.op = 47 ∨ y.op = 48 ∨ y.op = 49 ∨ y.op = 46 ∨ y.op = 51 ∨ y.op = 52 ∨ (11 ≤ y.op ∧ y.op ≤ 20)) : C_ops_plain_105 E w0 false (FinD E (EfQ S ((plainS y).1, (plainS y).2, true))) (.ptr k 0) (.ptr k2 0) (.int .i64 y.a) (.int .u8 y.op) (.bool (decide (y.op = 23 ∨ y.op = 24 ∨ y.op = 25 ∨ y.op = 26 ∨ y.op = 27 ∨ y.op = 28))) S3 := by
  refine C_ops_plain_105_ok ?_
  unfold P_ops_plain_105
  rw [cdI]
  refine ⟨fun hf => ?_, fun hf => ?_⟩
  · have e : plainS y = ([y.a, y.a], [4]) := by
      unfold plainS
      repeat rw [if_neg (by omega)]
      try rw [if_pos (by omega)]
    rw [e]
    exact efLL (r := ([y.a, y.a], [4], true)) hle hn h2 rfl rfl
  refine tEq ?_
  rw [cdI]
  refine ⟨fun h29 => ?_, fun h29 => ?_⟩
  · have e : plainS y = ([y.a], [y.b]) := by
      unfold plainS
      repeat rw [if_neg (by omega)]
      try rw [if_pos (by omega)]
    have l2 : loadSc S3 (.ptr k 2) = some (.int .i64 y.b) := by rw [ldP h0]; rfl
    rw [e]
    refine ⟨rfl, ?_, ?_, ?_, trivial⟩
    · refine lit_own (l := [y.a]) fun v S4 g1 => ⟨trivial, (ops_of_ok g1.cells).useX ⟨trivial, ?_⟩⟩
      have e4 : S4 k = S3 k := by rw [g1.le _ _ h0, h0]
      have l4 : loadSc S4 (.ptr k 2) = some (.int .i64 y.b) := by rw [ldP (g1.le _ _ h0)]; rfl
      simp only [ofP, oD, orAny, Nat.zero_add, l2, l4]
      refine ⟨⟨⟨by simp, rfl⟩, ⟨by simp, e4⟩, trivial⟩, lit_own (l := [y.b]) fun v' S6 g2 => ⟨trivial, (ops_gives_ok (a := v) (b := .nilSlc) (c := .bool true) g2.cells).useX ⟨trivial, ?_⟩⟩⟩
      exact endEf' hle hn h2 (r := ([y.a], [y.b], true)) ⟨S4, g1, g2⟩
    · refine lit_own (l := [y.a]) fun v S4 g1 => ⟨trivial, ?_⟩
      have e4 : S4 k = S3 k := by rw [g1.le _ _ h0, h0]
      have l4 : loadSc S4 (.ptr k 2) = some (.int .i64 y.b) := by rw [ldP (g1.le _ _ h0)]; rfl
      simp only [ofP, oD, orAny, Nat.zero_add, l2, l4]
      refine ⟨⟨⟨by simp, e4⟩, trivial⟩, lit_own (l := [y.b]) fun v' S6 g2 => ⟨trivial, (ops_of_ok g1.cells).useX ⟨trivial, (ops_gives_ok (a := v) (b := .nilSlc) (c := .bool true) g2.cells).useX ⟨trivial, ?_⟩⟩⟩⟩
      exact endEf' hle hn h2 (r := ([y.a], [y.b], true)) ⟨S4, g1, g2⟩
    · simp only [ofP, oD, Nat.zero_add, l2]
      refine ⟨trivial, lit_own (l := [y.b]) fun v' S4 g1 => ⟨trivial, lit_own (l := [y.a]) fun v S6 g2 => ⟨trivial, (ops_of_ok g2.cells).useX ⟨trivial, (ops_gives_ok (a := v) (b := .nilSlc) (c := .bool true) g1.cells).useX ⟨trivial, ?_⟩⟩⟩⟩⟩
      obtain ⟨S5, g3, g4⟩ := g1.swap g2
      exact endEf' hle hn h2 (r := ([y.a], [y.b], true)) ⟨S5, g3, g4⟩
  refine tEq ?_
  rw [cdI]
  refine ⟨fun h30 => ?_, fun h30 => ?_⟩
  · have e : plainS y = ([4], [4]) := by
      unfold plainS
      repeat rw [if_neg (by omega)]
      try rw [if_pos (by omega)]
    rw [e]
    exact efLL (r := ([4], [4], true)) hle hn h2 rfl rfl
  refine tEq ?_
  rw [cdI]
  refine ⟨fun h31 => ?_, fun h31 => ?_⟩
  · have e : plainS y = ([5, 5], [5]) := by
      unfold plainS
      repeat rw [if_neg (by omega)]
      try rw [if_pos (by omega)]
    rw [e]
    exact efLL (r := ([5, 5], [5], true)) hle hn h2 rfl rfl
  refine tEq ?_
  rw [cdI]
  refine ⟨fun h32 => ?_, fun h32 => ?_⟩
  · have e : plainS y = ([5], [3]) := by
      unfold plainS
      repeat rw [if_neg (by omega)]
      try rw [if_pos (by omega)]
    rw [e]
    exact efLL (r := ([5], [3], true)) hle hn h2 rfl rfl
  refine tEq ?_
  rw [cdI]
  refine ⟨fun h33 => ?_, fun h33 => ?_⟩
  · have e : plainS y = ([5, 3], [2]) := by
      unfold plainS
      repeat rw [if_neg (by omega)]
      try rw [if_pos (by omega)]
    rw [e]
    exact efLL (r := ([5, 3], [2], true)) hle hn h2 rfl rfl
  refine tEq ?_
  rw [cdI]
  refine ⟨fun h34 => ?_, fun h34 => ?_⟩
  · have e : plainS y = ([5, 3, 3], [5]) := by
      unfold plainS
      repeat rw [if_neg (by omega)]
      try rw [if_pos (by omega)]
    rw [e]
    exact efLL (r := ([5, 3, 3], [5], true)) hle hn h2 rfl rfl
  refine tEq ?_
  rw [cdI]
  refine ⟨fun h35 => ?_, fun h35 => ?_⟩
  · have e : plainS y = ([2], [5]) := by
      unfold plainS
      repeat rw [if_neg (by omega)]
      try rw [if_pos (by omega)]
    rw [e]
    exact efLL (r := ([2], [5], true)) hle hn h2 rfl rfl
  exact orC (C := fun b => C_ops_plain_173 E w0 false _ _ _ _ b S3) (plain_173 hle hn h2 (by omega)) fun h => tEq h
theorem plain_77 (hv : y.op = 21 ∨ y.op = 22 ∨ (23 ≤ y.op ∧ y.op ≤ 35) ∨ y.op = 47 ∨ y.op = 48 ∨ y.op = 49 ∨ y.op = 46 ∨ y.op = 51 ∨ y.op = 52 ∨ (11 ≤ y.op ∧ y.op ≤ 20)) : C_ops_plain_77 E w0 false (FinD E (EfQ S ((plainS y).1, (plainS y).2, true))) (.ptr k 0) (.ptr k2 0) (.int .i64 y.a) (.int .u8 y.op) (.bool (decide (y.op = 21 ∨ y.op = 22))) S3 := by
  refine C_ops_plain_77_ok ?_
  unfold P_ops_plain_77
  rw [cdI]
  refine ⟨fun hf => ?_, fun hf => ?_⟩
  · have e : plainS y = ([y.a], [y.a]) := by
      unfold plainS
      repeat rw [if_neg (by omega)]
      try rw [if_pos (by omega)]
    rw [e]
    exact efLL (r := ([y.a], [y.a], true)) hle hn h2 rfl rfl
  exact orC (C := fun b => C_ops_plain_105 E w0 false _ _ _ _ _ b S3) (plain_105 hle hn h0 h2 (by omega)) fun h => orC h fun h => orC h fun h => orC h fun h => orC h fun h => tEq h
theorem plain_57 (hv : y.op = 8 ∨ y.op = 9 ∨ y.op = 10 ∨ y.op = 21 ∨ y.op = 22 ∨ (23 ≤ y.op ∧ y.op ≤ 35) ∨ y.op = 47 ∨ y.op = 48 ∨ y.op = 49 ∨ y.op = 46 ∨ y.op = 51 ∨ y.op = 52 ∨ (11 ≤ y.op ∧ y.op ≤ 20)) : C_ops_plain_57 E w0 false (FinD E (EfQ S ((plainS y).1, (plainS y).2, true))) (.ptr k 0) (.ptr k2 0) (.int .i64 y.a) (.int .u8 y.op) (.bool (decide (y.op = 8 ∨ y.op = 9))) S3 := by
  refine C_ops_plain_57_ok ?_
  unfold P_ops_plain_57
  rw [cdI]
  refine ⟨fun hf => ?_, fun hf => ?_⟩
  · have e : plainS y = ([0], []) := by
      unfold plainS
      repeat rw [if_neg (by omega)]
      try rw [if_pos (by omega)]
    rw [e]
    exact efLN (r := ([0], [], true)) hle hn h2 rfl rfl rfl
  refine tEq ?_
  rw [cdI]
  refine ⟨fun h10 => ?_, fun h10 => ?_⟩
  · have e : plainS y = ([0], [0, 0]) := by
      unfold plainS
      repeat rw [if_neg (by omega)]
      try rw [if_pos (by omega)]
    rw [e]
    exact efLL (r := ([0], [0, 0], true)) hle hn h2 rfl rfl
  exact orC (C := fun b => C_ops_plain_77 E w0 false _ _ _ _ _ b S3) (plain_77 hle hn h0 h2 (by omega)) fun h => tEq h
theorem plain_37 (hv : y.op = 4 ∨ y.op = 5 ∨ y.op = 7 ∨ y.op = 8 ∨ y.op = 9 ∨ y.op = 10 ∨ y.op = 21 ∨ y.op = 22 ∨ (23 ≤ y.op ∧ y.op ≤ 35) ∨ y.op = 47 ∨ y.op = 48 ∨ y.op = 49 ∨ y.op = 46 ∨ y.op = 51 ∨ y.op = 52 ∨ (11 ≤ y.op ∧ y.op ≤ 20)) : C_ops_plain_37 E w0 false (FinD E (EfQ S ((plainS y).1, (plainS y).2, true))) (.ptr k 0) (.ptr k2 0) (.int .i64 y.a) (.int .u8 y.op) (.bool (decide (y.op = 4 ∨ y.op = 5))) S3 := by
  refine C_ops_plain_37_ok ?_
  unfold P_ops_plain_37
  rw [cdI]
  refine ⟨fun hf => ?_, fun hf => ?_⟩
  · have e : plainS y = ([], [4]) := by
      unfold plainS
      repeat rw [if_neg (by omega)]
      try rw [if_pos (by omega)]
    rw [e]
    exact efNL (r := ([], [4], true)) hle hn h2 rfl rfl rfl
  refine tEq ?_
  rw [cdI]
  refine ⟨fun h7 => ?_, fun h7 => ?_⟩
  · have e : plainS y = ([], [0]) := by
      unfold plainS
      repeat rw [if_neg (by omega)]
      try rw [if_pos (by omega)]
    rw [e]
    exact efNL (r := ([], [0], true)) hle hn h2 rfl rfl rfl
  exact orC (C := fun b => C_ops_plain_57 E w0 false _ _ _ _ _ b S3) (plain_57 hle hn h0 h2 (by omega)) fun h => tEq h
theorem plain_25 (hv : y.op = 1 ∨ y.op = 2 ∨ y.op = 3 ∨ y.op = 4 ∨ y.op = 5 ∨ y.op = 7 ∨ y.op = 8 ∨ y.op = 9 ∨ y.op = 10 ∨ y.op = 21 ∨ y.op = 22 ∨ (23 ≤ y.op ∧ y.op ≤ 35) ∨ y.op = 47 ∨ y.op = 48 ∨ y.op = 49 ∨ y.op = 46 ∨ y.op = 51 ∨ y.op = 52 ∨ (11 ≤ y.op ∧ y.op ≤ 20)) : C_ops_plain_25 E w0 false (FinD E (EfQ S ((plainS y).1, (plainS y).2, true))) (.ptr k 0) (.ptr k2 0) (.int .i64 y.a) (.int .u8 y.op) (.bool (decide (y.op = 1 ∨ y.op = 2 ∨ y.op = 3))) S3 := by
  refine C_ops_plain_25_ok ?_
  unfold P_ops_plain_25
  rw [cdI]
  refine ⟨fun hf => ?_, fun hf => ?_⟩
  · have e : plainS y = ([], [y.op]) := by
      unfold plainS
      rw [if_pos (by omega)]
    have l0 : loadSc S3 (.ptr k 0) = some (.int .u8 y.op) := by rw [ldP h0]; rfl
    have w : IntKind.i64.wrap y.op = y.op := wrap_i64 (by omega) (by omega)
    rw [e]
    refine ⟨rfl, ?_, ?_, trivial⟩
    · refine (ops_of_ok clN).useX ⟨trivial, ?_⟩
      simp only [ofP, oD, orAny, Nat.zero_add, l0, cvI, w]
      refine ⟨⟨⟨by simp, rfl⟩, trivial⟩, lit_own (l := [y.op]) fun v' S6 g2 => ⟨trivial, (ops_gives_ok (a := .nilSlc) (b := .nilSlc) (c := .bool true) g2.cells).useX ⟨trivial, ?_⟩⟩⟩
      exact endEf' hle hn h2 (r := ([], [y.op], true)) ⟨S3, Own.nil _, g2⟩
    · simp only [ofP, oD, Nat.zero_add, l0, cvI, w]
      refine ⟨trivial, lit_own (l := [y.op]) fun v' S4 g1 => ⟨trivial, (ops_of_ok clN).useX ⟨trivial, (ops_gives_ok (a := .nilSlc) (b := .nilSlc) (c := .bool true) g1.cells).useX ⟨trivial, ?_⟩⟩⟩⟩
      exact endEf' hle hn h2 (r := ([], [y.op], true)) ⟨S3, Own.nil _, g1⟩
  exact orC (C := fun b => C_ops_plain_37 E w0 false _ _ _ _ _ b S3) (plain_37 hle hn h0 h2 (by omega)) fun h => tEq h
end
section
variable {E : Env} {w0 : World}
theorem ops_plain_ok {y : In} (hy : y.Ok) (hv : (1 ≤ y.op ∧ y.op ≤ 35 ∧ y.op ≠ 6) ∨ (46 ≤ y.op ∧ y.op ≤ 52 ∧ y.op ≠ 50)) {S : DSt} : DFn Try.prog E w0 false f_ops_plain [inD y] S (EfQ S ((plainS y).1, (plainS y).2, true)) := by
  refine V_ops_plain_ok ?_
  unfold V_ops_plain
  rw [inD, clA, oD]
  intro k a n
  intro k2 a2 n2
  obtain ⟨ne2, n2'⟩ := DSt.fresh n2
  generalize hS3 : (S.set k _).set k2 _ = S3
  have h2 : S3 k2 = some ⟨3, [[.nilSlc, .nilSlc, .bool false]], a2⟩ := by rw [← hS3]; exact DSt.set_same _ _ _
  have h0 : S3 k = some ⟨4, [inC y], a⟩ := by rw [← hS3, DSt.set_ne _ _ _ (Ne.symm ne2)]; exact DSt.set_same _ _ _
  have hle : S.le S3 := by rw [← hS3]; exact DSt.le_set (DSt.le_new n) n2'
  have l0 : loadSc S3 (.ptr k 0) = some (.int .u8 y.op) := by rw [ldP h0]; rfl
  have l1 : loadSc S3 (.ptr k 1) = some (.int .i64 y.a) := by rw [ldP h0]; rfl
  simp only [ofP, Nat.zero_add]
  rw [oD, l1, oD, oD, l0, oD]
  exact orC (C := fun b => C_ops_plain_25 E w0 false _ _ _ _ _ b S3) (plain_25 hle n2' h0 h2 (by omega)) fun h => orC h fun h => tEq h
end
end Go.Proofs.Ytcboaonbfgjmgaa.d
end

section
open Go.Proofs Go Go.Am Go.Op
namespace Go.Proofs.Ytcboaonbfgjmgaa.d
set_option linter.unusedVariables false
set_option linter.unusedSimpArgs false
set_option maxRecDepth 100000
section
variable {E : Env} {w0 : World} {S S3 : DSt} {k2 : Nat} {a2 : List AV}
variable (hle : S.le S3) (hn : S k2 = none) (h2 : S3 k2 = some ⟨3, [[.nilSlc, .nilSlc, .bool false]], a2⟩) {x : Bool}
include hle hn h2
theorem efLLg {r : List Int × List Int × Bool} : litD S3 1 (some (iC r.1)) r.1.length fun v S4 => DFn Try.prog E w0 x f_ops_of [v] S4 fun w S5 => litD S5 1 (some (iC r.2.1)) r.2.1.length fun v' S6 => DFn Try.prog E w0 x f_ops_effect_gives [w, v'] S6 fun u S7 => DFn Try.prog E w0 x f_ops_effect_given [u, .bool r.2.2] S7 fun u S7 =>
    storeD S7 3 (.ptr k2 0) u fun _ S8 => optW (loadAg S8 3 (.ptr k2 0)) fun z => FinD E (EfQ S r) z S8 := by
  refine lit_own fun v S4 g1 => (ops_of_ok g1.cells).use (lit_own fun v' S6 g2 => ?_)
  refine (ops_gives_ok (a := v) (b := .nilSlc) (c := .bool true) g2.cells).use ?_
  refine (ops_given_ok (a := v) (b := v') (c := .bool true) (clB _)).use ?_
  exact endEf hle hn h2 rfl ⟨S4, g1, g2⟩
theorem efNLg {r : List Int × List Int × Bool} (h1 : r.1 = []) : DFn Try.prog E w0 x f_ops_of [.nilSlc] S3 fun w S5 => litD S5 1 (some (iC r.2.1)) r.2.1.length fun v' S6 => DFn Try.prog E w0 x f_ops_effect_gives [w, v'] S6 fun u S7 => DFn Try.prog E w0 x f_ops_effect_given [u, .bool r.2.2] S7 fun u S7 =>
    storeD S7 3 (.ptr k2 0) u fun _ S8 => optW (loadAg S8 3 (.ptr k2 0)) fun z => FinD E (EfQ S r) z S8 := by
  refine (ops_of_ok clN).use (lit_own fun v' S6 g2 => ?_)
  refine (ops_gives_ok (a := .nilSlc) (b := .nilSlc) (c := .bool true) g2.cells).use ?_
  refine (ops_given_ok (a := .nilSlc) (b := v') (c := .bool true) (clB _)).use ?_
  exact endEf hle hn h2 rfl ⟨S3, by rw [h1]; exact Own.nil _, g2⟩
theorem efLNg {r : List Int × List Int × Bool} (h1 : r.2.1 = []) : litD S3 1 (some (iC r.1)) r.1.length fun v S4 => DFn Try.prog E w0 x f_ops_of [v] S4 fun u S7 => DFn Try.prog E w0 x f_ops_effect_given [u, .bool r.2.2] S7 fun u S7 =>
    storeD S7 3 (.ptr k2 0) u fun _ S8 => optW (loadAg S8 3 (.ptr k2 0)) fun z => FinD E (EfQ S r) z S8 := by
  refine lit_own fun v S4 g1 => (ops_of_ok g1.cells).use ?_
  refine (ops_given_ok (a := v) (b := .nilSlc) (c := .bool true) (clB _)).use ?_
  exact endEf hle hn h2 rfl ⟨S4, g1, by rw [h1]; exact Own.nil _⟩
theorem efXLg {B : DSt} {v : D} {r : List Int × List Int × Bool} (g1 : Own S3 v r.1 B) : DFn Try.prog E w0 x f_ops_of [v] B fun w S5 => litD S5 1 (some (iC r.2.1)) r.2.1.length fun v' S6 => DFn Try.prog E w0 x f_ops_effect_gives [w, v'] S6 fun u S7 => DFn Try.prog E w0 x f_ops_effect_given [u, .bool r.2.2] S7 fun u S7 =>
    storeD S7 3 (.ptr k2 0) u fun _ S8 => optW (loadAg S8 3 (.ptr k2 0)) fun z => FinD E (EfQ S r) z S8 := by
  refine (ops_of_ok g1.cells).use (lit_own fun v' S6 g2 => ?_)
  refine (ops_gives_ok (a := v) (b := .nilSlc) (c := .bool true) g2.cells).use ?_
  refine (ops_given_ok (a := v) (b := v') (c := .bool true) (clB _)).use ?_
  exact endEf hle hn h2 rfl ⟨B, g1, g2⟩
end
theorem lb1 {S : DSt} {a : Int} {K : D → DSt → Prop} (h : K (bD [a]) S) : litD S 1 (fillR 1 (List.replicate 1 [(.int .u8 0)]) [(0, .int .u8 a)]) 1 K := lit_lst (rows := ones ([a].map (D.int .u8))) rfl h
theorem lb2 {S : DSt} {a b : Int} {K : D → DSt → Prop} (h : K (bD [a, b]) S) : litD S 1 (fillR 1 (List.replicate 2 [(.int .u8 0)]) [(0, .int .u8 a), (1, .int .u8 b)]) 2 K := lit_lst (rows := ones ([a, b].map (D.int .u8))) rfl h
section
variable {E : Env} {w0 : World}
set_option maxHeartbeats 400000 in
theorem made_25_ok {y : In} {m : Mo} (hy : y.Ok) (hm : m.Fits) (hb : y.op = 37 ∨ y.op = 38 → 0 ≤ y.b) {S0 S : DSt} (hle : S0.le S) {k k2 k4 : Nat} {a a2 a4 : List AV} (h0 : S k = some ⟨4, [inC y], a⟩) (h2 : S k2 = some ⟨3, [moC m], a2⟩) (hn : S0 k4 = none) (h4 : S k4 = some ⟨3, [[.nilSlc, .nilSlc, .bool false]], a4⟩) :
    C_ops_made_25 E w0 false (FinD E (EfQ S0 (madeS y m))) (.ptr k 0) (.ptr k2 0) (.ptr k4 0) (.int .i64 y.a) (.int .u8 y.op) (.bool (decide (y.op = 36 ∨ y.op = 37 ∨ y.op = 38))) S := by
  refine C_ops_made_25_ok ?_
  unfold P_ops_made_25
  obtain ⟨xi0, xi1, xi2, xi3⟩ := inC_at y
  have hok := hm.ok
  have ha := hy.a
  have lm : loadAg S 3 (.ptr k2 0) = some (moD m) := by rw [laP h2 (by simp [moC])]; rfl
  have l1 : loadSc S (.ptr k 1) = some (.int .i64 y.a) := by rw [ldP h0]; rfl
  have box : ∀ {k5 : Nat} {o : DObj}, S k5 = none → S0.le (S.set k5 o) ∧ (S.set k5 o) k4 = some ⟨3, [[.nilSlc, .nilSlc, .bool false]], a4⟩ ∧ (S.set k5 o) k = some ⟨4, [inC y], a⟩ := fun h => by
    refine ⟨DSt.le_trans hle (DSt.le_new h), ?_, ?_⟩
    · rw [DSt.set_ne _ _ _ (fun e => by rw [← e, h4] at h; cases h)]; exact h4
    · rw [DSt.set_ne _ _ _ (fun e => by rw [← e, h0] at h; cases h)]; exact h0
  have e39 : ∀ (p : Int), binI .eql (.int .u8 y.op) (.int .u8 p) = some (.bool (decide (y.op = p))) := fun p => by rw [biEq, beqD]
  rw [cdI]
  refine ⟨fun h36 => ?_, fun h36 => ?_⟩
  · simp only [lm, oD, ofP, Nat.zero_add, l1]
    refine lb1 ((ops_typed_ok hok ha (by decide)).use ?_)
    obtain ⟨t, ok, ht⟩ : ∃ t ok, typedS m y.a [6] = (t, ok) := ⟨_, _, rfl⟩
    simp only [typedD, ht, exD, List.getElem?_cons_zero, List.getElem?_cons_succ, oD]
    refine tyBox fun k5 a5 n5 => ?_
    obtain ⟨b1, b2, b3⟩ := box (o := ⟨5, [tyR t], a5⟩) n5
    have h5 : (S.set k5 ⟨5, [tyR t], a5⟩) k5 = some ⟨5, [tyR t], a5⟩ := DSt.set_same _ _ _
    have hfl : t.fields.length < 2 ^ 30 := by
      unfold typedS at ht
      split at ht
      · rename_i t' e
        obtain ⟨_, e1, e2⟩ := tyOf_some e
        have : t' = t := (Prod.ext_iff.1 ht).1
        rw [← this]
        exact hm.fields _ (List.mem_of_getElem? e1)
      · have : zeroTy = t := (Prod.ext_iff.1 ht).1
        rw [← this]; decide
    generalize S.set k5 ⟨5, [tyR t], a5⟩ = S5 at b1 b2 b3 h5 ⊢
    have l0 : loadSc S5 (.ptr k 0) = some (.int .u8 y.op) := by rw [ldP b3]; rfl
    have l2 : loadSc S5 (.ptr k 2) = some (.int .i64 y.b) := by rw [ldP b3]; rfl
    have lf : loadSc S5 (.ptr k5 2) = some (fldsD t.fields) := by rw [ldP h5]; rfl
    simp only [ofP, oD, Nat.zero_add, l0, lf, fldsD_len, e39]
    rw [cdI]
    refine ⟨fun e36 => ?_, fun e36 => ?_⟩
    · have em : madeS y m = (t.fields.map (·.2), [y.a], ok) := by
        unfold madeS
        rw [if_pos h36]
        simp only [ht, if_pos e36]
      rw [em]
      refine loop_ops_made_0 (I := fun n x4 x5 x7 x8 x42 x43 x44 S' => x4 = .ptr k4 0 ∧ x5 = .int .i64 y.a ∧ x7 = .bool ok ∧ x42 = fldsD t.fields ∧ x43 = .int .i64 (t.fields.length : Int) ∧ ∃ (i : Nat) (B : DSt), x44 = .int .i64 (i : Int) ∧ i + n = t.fields.length ∧ S0.le B ∧ B k4 = some ⟨3, [[.nilSlc, .nilSlc, .bool false]], a4⟩ ∧ Grw B x8 (iC ((t.fields.take i).map (·.2))) 1 S') ?_ (n := t.fields.length) ⟨rfl, rfl, rfl, rfl, rfl, 0, S5, rfl, by omega, b1, b2, Grw.nil _ _⟩
      rintro n _ _ _ x8 _ _ _ S6 ⟨rfl, rfl, rfl, rfl, rfl, i, B, rfl, hi, c1, c2, g⟩
      unfold B_ops_made_0
      rw [biLt, oD, cdI]
      refine ⟨fun hlt => ?_, fun hge => ?_⟩
      · have hlt : i < t.fields.length := by omega
        obtain ⟨f, hf⟩ : ∃ f, f = t.fields[i] := ⟨_, rfl⟩
        have ea : t.fields[i]? = some f := by rw [List.getElem?_eq_getElem hlt, hf]
        rw [fldsD_at ea, oD, laFld, oD]
        intro k6 a6 n6
        refine stP (ds := fldR f) (DSt.set_same _ _ _) (clA _) ⟨rfl, by decide, by simp [fldR]⟩ fun a7 => ?_
        rw [DSt.set_set, ofP, oD, ldP (DSt.set_same _ _ _), show (setManyD [D.str [], .int .i64 0] 0 (fldR f))[0 + 1]? = some (.int .i64 f.2) from rfl, oD]
        have gu := g.under (o := ⟨[D.str [], .int .i64 0].length, [setManyD [D.str [], .int .i64 0] 0 (fldR f)], a7⟩) n6
        refine li1 (gu.push (news := iC [f.2]) (iD_rows _ _) (by simp; omega) fun t' S' g' => ?_)
        rw [biAdd, oD, wrap_i64 (by omega) (by omega)]
        have z6 : B k6 = none := by
          cases e : B k6 with
          | none => rfl
          | some o => rw [g.le _ _ e] at n6; cases n6
        have zS : S0 k6 = none := by
          cases e : S0 k6 with
          | none => rfl
          | some o => rw [c1 _ _ e] at z6; cases z6
        refine ⟨n - 1, by omega, by trivial, by trivial, by trivial, by trivial, by trivial, i + 1, B.set k6 ⟨[D.str [], .int .i64 0].length, [setManyD [D.str [], .int .i64 0] 0 (fldR f)], a7⟩, rfl, by omega, DSt.le_set c1 zS, ?_, ?_⟩
        · rw [DSt.set_ne _ _ _ (fun e => by rw [← e, c2] at z6; cases z6)]; exact c2
        · rw [List.take_add_one, ea, Option.toList_some, List.map_append, iC_append]
          exact g'
      · have hi : i = t.fields.length := by omega
        subst hi
        rw [List.take_length] at g
        have gg : Own B x8 (t.fields.map (·.2)) S6 := Own.of_grw g
        clear g em hge
        generalize t.fields.map (·.2) = lc at gg ⊢
        exact efXLg (r := (lc, [y.a], ok)) c1 hn c2 gg
    have hm36 : madeS y m = match (if ok then t.fields[y.b.toNat]? else none) with
      | some f => if y.op = 37 then ([y.a], [f.2], true) else ([y.a, f.2], [], true)
      | none => ([], [], false) := by
      unfold madeS
      rw [if_pos h36]
      simp only [ht, if_neg e36]
      rfl
    have bad : ([], [], false) = madeS y m → optW (aggD (fillD [.nilSlc, .nilSlc, (.bool false)] [])) fun v62 => storeD S5 3 (.ptr k4 0) v62 fun v63 S64 => optW (loadAg S64 3 (.ptr k4 0)) fun v65 => FinD E (EfQ S0 (madeS y m)) v65 S64 := fun e => by
      rw [fiN, agS, oD, ← e]
      exact endEf (r := ([], [], false)) b1 hn b2 rfl ⟨S5, Own.nil _, Own.nil _⟩
    rw [unN, oD]
    cases ok with
    | false =>
      simp only [Bool.not_false, wdB, t1, vdF, oD, pdB, if_true, cdT]
      exact bad (by rw [hm36]; rfl)
    | true =>
      simp only [Bool.not_true, wdB, t2, vdT, oD, l2, lf, fldsD_len, biGe, pdB, Bool.false_eq_true, if_false]
      have hbn : 0 ≤ y.b := hb (by omega)
      rw [cdI]
      refine ⟨fun hbig => bad ?_, fun hsm => ?_⟩
      · rw [hm36, if_pos rfl, List.getElem?_eq_none (by omega)]
      obtain ⟨j, hj⟩ : ∃ j : Nat, j = y.b.toNat := ⟨_, rfl⟩
      have hj' : y.b = (j : Int) := by omega
      have hsm : j < t.fields.length := by omega
      rw [← hj] at hm36
      obtain ⟨f, hf⟩ : ∃ f, f = t.fields[j] := ⟨_, rfl⟩
      have ea : t.fields[j]? = some f := by rw [List.getElem?_eq_getElem hsm, hf]
      rw [if_pos rfl, ea] at hm36
      simp only at hm36
      simp only [hj', fldsD_at ea, oD, ofE, lsE, Nat.zero_add, show (fldR f)[1]? = some (.int .i64 f.2) from rfl, l0, e39]
      rw [cdI]
      refine ⟨fun e38 => ?_, fun e38 => ?_⟩
      · rw [if_neg (by omega)] at hm36
        rw [hm36]
        exact efLN (r := ([y.a, f.2], [], true)) b1 hn b2 rfl rfl rfl
      · rw [if_pos (by omega)] at hm36
        rw [hm36]
        exact efLL (r := ([y.a], [f.2], true)) b1 hn b2 rfl rfl
  simp only [e39, oD]
  rw [cdI]
  refine ⟨fun h39 => ?_, fun h39 => ?_⟩
  · simp only [lm, oD, ofP, Nat.zero_add, l1]
    refine lb1 ((ops_typed_ok hok ha (by decide)).use ?_)
    simp only [typedD, exD, List.getElem?_cons_zero, List.getElem?_cons_succ, oD]
    refine tyBox fun k5 a5 n5 => ?_
    obtain ⟨b1, b2, b3⟩ := box (o := ⟨5, [tyR (typedS m y.a [7]).1], a5⟩) n5
    have lf : loadSc (S.set k5 ⟨5, [tyR (typedS m y.a [7]).1], a5⟩) (.ptr k5 3) = some (.int .i64 (typedS m y.a [7]).1.elem) := by rw [ldP (DSt.set_same _ _ _)]; rfl
    have h5 : (S.set k5 ⟨5, [tyR (typedS m y.a [7]).1], a5⟩) k5 = some ⟨5, [tyR (typedS m y.a [7]).1], a5⟩ := DSt.set_same _ _ _
    generalize S.set k5 ⟨5, [tyR (typedS m y.a [7]).1], a5⟩ = S5 at b1 b2 b3 lf h5 ⊢
    simp only [ofP, oD, Nat.zero_add, lf]
    have em : madeS y m = ([(typedS m y.a [7]).1.elem], [y.a], (typedS m y.a [7]).2) := by
      unfold madeS
      rw [if_neg h36, if_pos h39]
    rw [em]
    exact efLLg (r := ([(typedS m y.a [7]).1.elem], [y.a], (typedS m y.a [7]).2)) b1 hn b2
  rw [cdI]
  refine ⟨fun h40 => ?_, fun h40 => ?_⟩
  · simp only [lm, oD, ofP, Nat.zero_add, l1]
    refine lb1 ((ops_typed_ok hok ha (by decide)).use ?_)
    simp only [typedD, exD, List.getElem?_cons_zero, List.getElem?_cons_succ, oD]
    refine tyBox fun k5 a5 n5 => ?_
    obtain ⟨b1, b2, b3⟩ := box (o := ⟨5, [tyR (typedS m y.a [8]).1], a5⟩) n5
    have lf : loadSc (S.set k5 ⟨5, [tyR (typedS m y.a [8]).1], a5⟩) (.ptr k5 3) = some (.int .i64 (typedS m y.a [8]).1.elem) := by rw [ldP (DSt.set_same _ _ _)]; rfl
    have h5 : (S.set k5 ⟨5, [tyR (typedS m y.a [8]).1], a5⟩) k5 = some ⟨5, [tyR (typedS m y.a [8]).1], a5⟩ := DSt.set_same _ _ _
    generalize S.set k5 ⟨5, [tyR (typedS m y.a [8]).1], a5⟩ = S5 at b1 b2 b3 lf h5 ⊢
    have em : madeS y m = ([], [y.a], (typedS m y.a [8]).2) := by
      unfold madeS
      rw [if_neg h36, if_neg h39, if_pos h40]
    rw [em]
    exact efNLg (r := ([], [y.a], (typedS m y.a [8]).2)) b1 hn b2 rfl
  rw [cdI]
  refine ⟨fun h44 => ?_, fun h44 => ?_⟩
  · simp only [lm, oD, ofP, Nat.zero_add, l1]
    refine lb1 ((ops_typed_ok hok ha (by decide)).use ?_)
    simp only [typedD, exD, List.getElem?_cons_zero, List.getElem?_cons_succ, oD]
    refine tyBox fun k5 a5 n5 => ?_
    obtain ⟨b1, b2, b3⟩ := box (o := ⟨5, [tyR (typedS m y.a [8]).1], a5⟩) n5
    have lf : loadSc (S.set k5 ⟨5, [tyR (typedS m y.a [8]).1], a5⟩) (.ptr k5 3) = some (.int .i64 (typedS m y.a [8]).1.elem) := by rw [ldP (DSt.set_same _ _ _)]; rfl
    have h5 : (S.set k5 ⟨5, [tyR (typedS m y.a [8]).1], a5⟩) k5 = some ⟨5, [tyR (typedS m y.a [8]).1], a5⟩ := DSt.set_same _ _ _
    generalize S.set k5 ⟨5, [tyR (typedS m y.a [8]).1], a5⟩ = S5 at b1 b2 b3 lf h5 ⊢
    simp only [ofP, oD, Nat.zero_add, lf]
    have em : madeS y m = ([y.a, (typedS m y.a [8]).1.elem], [], (typedS m y.a [8]).2) := by
      unfold madeS
      rw [if_neg h36, if_neg h39, if_neg h40, if_pos h44]
    rw [em]
    exact efLNg (r := ([y.a, (typedS m y.a [8]).1.elem], [], (typedS m y.a [8]).2)) b1 hn b2 rfl
  rw [cdI]
  refine ⟨fun h45 => ?_, fun h45 => ?_⟩
  · simp only [lm, oD, ofP, Nat.zero_add, l1]
    refine lb1 ((ops_typed_ok hok ha (by decide)).use ?_)
    simp only [typedD, exD, List.getElem?_cons_zero, List.getElem?_cons_succ, oD]
    refine tyBox fun k5 a5 n5 => ?_
    obtain ⟨b1, b2, b3⟩ := box (o := ⟨5, [tyR (typedS m y.a [8]).1], a5⟩) n5
    have lf : loadSc (S.set k5 ⟨5, [tyR (typedS m y.a [8]).1], a5⟩) (.ptr k5 3) = some (.int .i64 (typedS m y.a [8]).1.elem) := by rw [ldP (DSt.set_same _ _ _)]; rfl
    have h5 : (S.set k5 ⟨5, [tyR (typedS m y.a [8]).1], a5⟩) k5 = some ⟨5, [tyR (typedS m y.a [8]).1], a5⟩ := DSt.set_same _ _ _
    generalize S.set k5 ⟨5, [tyR (typedS m y.a [8]).1], a5⟩ = S5 at b1 b2 b3 lf h5 ⊢
    have em : madeS y m = ([y.a], [(typedS m y.a [8]).1.elem], (typedS m y.a [8]).2) := by
      unfold madeS
      rw [if_neg h36, if_neg h39, if_neg h40, if_neg h44, if_pos h45]
    rw [em]
    refine ⟨by trivial, ?_, ?_, ?_, trivial⟩
    · refine lit_own (l := [y.a]) fun v S4 g1 => ⟨trivial, (ops_of_ok g1.cells).useX ⟨trivial, ?_⟩⟩
      have e4 : S4 k5 = S5 k5 := by rw [g1.le _ _ h5, h5]
      have l4 : loadSc S4 (.ptr k5 3) = some (.int .i64 (typedS m y.a [8]).1.elem) := by rw [ldP (g1.le _ _ h5)]; rfl
      simp only [ofP, oD, orAny, Nat.zero_add, lf, l4]
      refine ⟨⟨⟨by simp, rfl⟩, ⟨by simp, e4⟩, trivial⟩, lit_own (l := [(typedS m y.a [8]).1.elem]) fun v' S6 g2 => ⟨trivial, (ops_gives_ok (a := v) (b := .nilSlc) (c := .bool true) g2.cells).useX ⟨trivial, (ops_given_ok (a := v) (b := v') (c := .bool true) (clB _)).useX ⟨trivial, ?_⟩⟩⟩⟩
      exact endEf' b1 hn b2 (r := ([y.a], [(typedS m y.a [8]).1.elem], (typedS m y.a [8]).2)) ⟨S4, g1, g2⟩
    · refine lit_own (l := [y.a]) fun v S4 g1 => ⟨trivial, ?_⟩
      have e4 : S4 k5 = S5 k5 := by rw [g1.le _ _ h5, h5]
      have l4 : loadSc S4 (.ptr k5 3) = some (.int .i64 (typedS m y.a [8]).1.elem) := by rw [ldP (g1.le _ _ h5)]; rfl
      simp only [ofP, oD, orAny, Nat.zero_add, lf, l4]
      refine ⟨⟨⟨by simp, e4⟩, trivial⟩, lit_own (l := [(typedS m y.a [8]).1.elem]) fun v' S6 g2 => ⟨trivial, (ops_of_ok g1.cells).useX ⟨trivial, (ops_gives_ok (a := v) (b := .nilSlc) (c := .bool true) g2.cells).useX ⟨trivial, (ops_given_ok (a := v) (b := v') (c := .bool true) (clB _)).useX ⟨trivial, ?_⟩⟩⟩⟩⟩
      exact endEf' b1 hn b2 (r := ([y.a], [(typedS m y.a [8]).1.elem], (typedS m y.a [8]).2)) ⟨S4, g1, g2⟩
    · simp only [ofP, oD, Nat.zero_add, lf]
      refine ⟨trivial, lit_own (l := [(typedS m y.a [8]).1.elem]) fun v' S4 g1 => ⟨trivial, lit_own (l := [y.a]) fun v S6 g2 => ⟨trivial, (ops_of_ok g2.cells).useX ⟨trivial, (ops_gives_ok (a := v) (b := .nilSlc) (c := .bool true) g1.cells).useX ⟨trivial, (ops_given_ok (a := v) (b := v') (c := .bool true) (clB _)).useX ⟨trivial, ?_⟩⟩⟩⟩⟩⟩
      obtain ⟨S7, g3, g4⟩ := g1.swap g2
      exact endEf' b1 hn b2 (r := ([y.a], [(typedS m y.a [8]).1.elem], (typedS m y.a [8]).2)) ⟨S7, g3, g4⟩
  simp only [lm, oD, ofP, Nat.zero_add, l1]
  refine lb2 ((ops_typed_ok hok ha (by decide)).use ?_)
  simp only [typedD, exD, List.getElem?_cons_zero, List.getElem?_cons_succ, oD]
  refine tyBox fun k5 a5 n5 => ?_
  obtain ⟨b1, b2, b3⟩ := box (o := ⟨5, [tyR (typedS m y.a [7, 8]).1], a5⟩) n5
  have lf : loadSc (S.set k5 ⟨5, [tyR (typedS m y.a [7, 8]).1], a5⟩) (.ptr k5 3) = some (.int .i64 (typedS m y.a [7, 8]).1.elem) := by rw [ldP (DSt.set_same _ _ _)]; rfl
  have h5 : (S.set k5 ⟨5, [tyR (typedS m y.a [7, 8]).1], a5⟩) k5 = some ⟨5, [tyR (typedS m y.a [7, 8]).1], a5⟩ := DSt.set_same _ _ _
  generalize S.set k5 ⟨5, [tyR (typedS m y.a [7, 8]).1], a5⟩ = S5 at b1 b2 b3 lf h5 ⊢
  have l0 : loadSc S5 (.ptr k 0) = some (.int .u8 y.op) := by rw [ldP b3]; rfl
  simp only [ofP, oD, Nat.zero_add, l0, e39]
  rw [cdI]
  refine ⟨fun h41 => ?_, fun h41 => ?_⟩
  · have em : madeS y m = ([y.a, 3], [(typedS m y.a [7, 8]).1.elem], (typedS m y.a [7, 8]).2) := by
      unfold madeS
      rw [if_neg h36, if_neg h39, if_neg h40, if_neg h44, if_neg h45, if_pos h41]
    rw [em]
    refine ⟨by trivial, ?_, ?_, ?_, trivial⟩
    · refine lit_own (l := [y.a, 3]) fun v S4 g1 => ⟨trivial, (ops_of_ok g1.cells).useX ⟨trivial, ?_⟩⟩
      have e4 : S4 k5 = S5 k5 := by rw [g1.le _ _ h5, h5]
      have l4 : loadSc S4 (.ptr k5 3) = some (.int .i64 (typedS m y.a [7, 8]).1.elem) := by rw [ldP (g1.le _ _ h5)]; rfl
      simp only [ofP, oD, orAny, Nat.zero_add, lf, l4]
      refine ⟨⟨⟨by simp, rfl⟩, ⟨by simp, e4⟩, trivial⟩, lit_own (l := [(typedS m y.a [7, 8]).1.elem]) fun v' S6 g2 => ⟨trivial, (ops_gives_ok (a := v) (b := .nilSlc) (c := .bool true) g2.cells).useX ⟨trivial, (ops_given_ok (a := v) (b := v') (c := .bool true) (clB _)).useX ⟨trivial, ?_⟩⟩⟩⟩
      exact endEf' b1 hn b2 (r := ([y.a, 3], [(typedS m y.a [7, 8]).1.elem], (typedS m y.a [7, 8]).2)) ⟨S4, g1, g2⟩
    · refine lit_own (l := [y.a, 3]) fun v S4 g1 => ⟨trivial, ?_⟩
      have e4 : S4 k5 = S5 k5 := by rw [g1.le _ _ h5, h5]
      have l4 : loadSc S4 (.ptr k5 3) = some (.int .i64 (typedS m y.a [7, 8]).1.elem) := by rw [ldP (g1.le _ _ h5)]; rfl
      simp only [ofP, oD, orAny, Nat.zero_add, lf, l4]
      refine ⟨⟨⟨by simp, e4⟩, trivial⟩, lit_own (l := [(typedS m y.a [7, 8]).1.elem]) fun v' S6 g2 => ⟨trivial, (ops_of_ok g1.cells).useX ⟨trivial, (ops_gives_ok (a := v) (b := .nilSlc) (c := .bool true) g2.cells).useX ⟨trivial, (ops_given_ok (a := v) (b := v') (c := .bool true) (clB _)).useX ⟨trivial, ?_⟩⟩⟩⟩⟩
      exact endEf' b1 hn b2 (r := ([y.a, 3], [(typedS m y.a [7, 8]).1.elem], (typedS m y.a [7, 8]).2)) ⟨S4, g1, g2⟩
    · simp only [ofP, oD, Nat.zero_add, lf]
      refine ⟨trivial, lit_own (l := [(typedS m y.a [7, 8]).1.elem]) fun v' S4 g1 => ⟨trivial, lit_own (l := [y.a, 3]) fun v S6 g2 => ⟨trivial, (ops_of_ok g2.cells).useX ⟨trivial, (ops_gives_ok (a := v) (b := .nilSlc) (c := .bool true) g1.cells).useX ⟨trivial, (ops_given_ok (a := v) (b := v') (c := .bool true) (clB _)).useX ⟨trivial, ?_⟩⟩⟩⟩⟩⟩
      obtain ⟨S7, g3, g4⟩ := g1.swap g2
      exact endEf' b1 hn b2 (r := ([y.a, 3], [(typedS m y.a [7, 8]).1.elem], (typedS m y.a [7, 8]).2)) ⟨S7, g3, g4⟩
  rw [cdI]
  refine ⟨fun h42 => ?_, fun h42 => ?_⟩
  · simp only [ofP, oD, Nat.zero_add, lf]
    have em : madeS y m = ([y.a, 3, (typedS m y.a [7, 8]).1.elem], [], (typedS m y.a [7, 8]).2) := by
      unfold madeS
      rw [if_neg h36, if_neg h39, if_neg h40, if_neg h44, if_neg h45, if_neg h41, if_pos h42]
    rw [em]
    exact efLNg (r := ([y.a, 3, (typedS m y.a [7, 8]).1.elem], [], (typedS m y.a [7, 8]).2)) b1 hn b2 rfl
  · have em : madeS y m = ([y.a], [3], (typedS m y.a [7, 8]).2) := by
      unfold madeS
      rw [if_neg h36, if_neg h39, if_neg h40, if_neg h44, if_neg h45, if_neg h41, if_neg h42]
    rw [em]
    exact efLLg (r := ([y.a], [3], (typedS m y.a [7, 8]).2)) b1 hn b2
theorem ops_made_ok {y : In} {m : Mo} (hy : y.Ok) (hm : m.Fits) (hb : y.op = 37 ∨ y.op = 38 → 0 ≤ y.b) {S : DSt} : DFn Try.prog E w0 false f_ops_made [inD y, moD m] S (EfQ S (madeS y m)) := by
  refine V_ops_made_ok ?_
  unfold V_ops_made
  rw [inD, clA, oD]
  intro k a n
  rw [moD, clA, oD]
  intro k2 a2 n2
  obtain ⟨ne2, n2'⟩ := DSt.fresh n2
  intro k4 a4 n4
  obtain ⟨ne4, n4'⟩ := DSt.fresh n4
  obtain ⟨ne4', n4''⟩ := DSt.fresh n4'
  generalize hS3 : ((S.set k _).set k2 _).set k4 _ = S3
  have h4 : S3 k4 = some ⟨3, [[.nilSlc, .nilSlc, .bool false]], a4⟩ := by rw [← hS3]; exact DSt.set_same _ _ _
  have h2 : S3 k2 = some ⟨3, [moC m], a2⟩ := by rw [← hS3, DSt.set_ne _ _ _ (Ne.symm ne4)]; exact DSt.set_same _ _ _
  have h0 : S3 k = some ⟨4, [inC y], a⟩ := by rw [← hS3, DSt.set_ne _ _ _ (Ne.symm ne4'), DSt.set_ne _ _ _ (Ne.symm ne2)]; exact DSt.set_same _ _ _
  have hle : S.le S3 := by rw [← hS3]; exact DSt.le_set (DSt.le_set (DSt.le_new n) n2') n4''
  have l0 : loadSc S3 (.ptr k 0) = some (.int .u8 y.op) := by rw [ldP h0]; rfl
  have l1 : loadSc S3 (.ptr k 1) = some (.int .i64 y.a) := by rw [ldP h0]; rfl
  simp only [ofP, Nat.zero_add]
  rw [oD, l1, oD, oD, l0, oD]
  exact orC (C := fun b => C_ops_made_25 E w0 false _ _ _ _ _ _ b S3) (made_25_ok hy hm hb hle h0 h2 n4'' h4) fun h => orC h fun h => tEq h
end
end Go.Proofs.Ytcboaonbfgjmgaa.d
end

section
open Go.Proofs Go Go.Am Go.Op
namespace Go.Proofs.Ytcboaonbfgjmgaa.d
set_option linter.unusedVariables false
set_option linter.unusedSimpArgs false
set_option maxRecDepth 100000
/-- What Takes answers: lists of one's own, the error. -/
def TkQ (S : DSt) (r : List Int × List Int × Int) (v : D) (S' : DSt) : Prop := ∃ c d, v = .tup [c, d, .int .i64 r.2.2] ∧ Two S c r.1 d r.2.1 S'
theorem isS_op {y : In} (h : isS y = true) : 1 ≤ y.op ∧ y.op ≤ 52 := by
  have hs : (lay y.op).isSome = true := by
    unfold isS at h
    simp only [Bool.and_eq_true] at h
    exact h.1.1
  by_cases c : 1 ≤ y.op ∧ y.op ≤ 52
  · exact c
  · exfalso
    rw [← layR_is] at hs
    unfold layR at hs
    have ne : ∀ p : Int, 1 ≤ p → p ≤ 52 → (y.op == p) = false := fun p h1 h2 => by
      rw [beqD]; exact decide_eq_false (by omega)
    simp only [ne 6 (by decide) (by decide), ne 7 (by decide) (by decide), ne 8 (by decide) (by decide), ne 50 (by decide) (by decide), ne 36 (by decide) (by decide), ne 37 (by decide) (by decide), ne 38 (by decide) (by decide), ne 23 (by decide) (by decide), ne 24 (by decide) (by decide), ne 46 (by decide) (by decide), ne 47 (by decide) (by decide), ne 48 (by decide) (by decide), Bool.false_or] at hs
    rw [if_neg (by omega), if_neg (by omega), if_neg (by omega), if_neg (by simp; omega), if_neg (by simp), if_neg (by simp), if_neg (by simp; omega), if_neg (by omega), if_neg (by simp), if_neg (by omega), if_neg (by omega), if_neg (by simp; omega)] at hs
    cases hs
section
variable {E : Env} {w0 : World}
theorem clone_ok {l : List Int} (hl : l.length < 2 ^ 40) {x : Bool} {S : DSt} : DFn Try.prog E w0 x f_slices_Clone_int [iX l] S fun d S' => Own S d l S' := by
  refine V_slices_Clone_int_ok ?_
  unfold V_slices_Clone_int
  rw [show eqOp .eql (eqSl (iX l) .nilSlc) = some (.bool false) from rfl, oD, cdF]
  refine lit_raw (rows := []) fun k acs n => ?_
  have hv : rowsS (S.set k ⟨1, [], acs⟩) 1 (iX l) = some (iC l) := by simp [iX, rowsS, rowsOf]
  simp only [appendD, hv, growD]
  by_cases hn : iC l = []
  · rw [if_pos hn]
    have : l = [] := by
      cases l with
      | nil => rfl
      | cons a l => simp [iC, ones] at hn
    subst this
    exact FinD.here (.inr ⟨k, acs, true, n, rfl, rfl⟩)
  · rw [if_neg hn, DSt.set_same]
    simp only
    rw [if_pos ⟨by trivial, by trivial, by simp⟩]
    refine ⟨by simp; omega, .inr fun k' acs' hk' => ?_⟩
    rw [DSt.erase_set _ _ _ n] at hk' ⊢
    refine FinD.here (.inr ⟨k', acs', false, hk', ?_, ?_⟩) <;> simp
variable {S B S' : DSt} {k8 : Nat} {y : In} {m : Mo}
theorem takes26 {r : List Int × List Int × Bool} {c d : D} {a : List AV} (hB : S.le B) (h8 : B k8 = some ⟨3, [[c, d, .bool r.2.2]], a⟩) (g : Two B c r.1 d r.2.1 S') (e : takesS y m = if r.2.2 = true then (r.1, r.2.1, 0) else ([], [], 2)) :
    C_ops_Takes_26 E w0 false (FinD E (TkQ S (takesS y m))) (.ptr k8 0) S' := by
  refine C_ops_Takes_26_ok ?_
  unfold P_ops_Takes_26
  have h := g.le _ _ h8
  simp only [ofP, oD, Nat.zero_add, ldP h, List.getElem?_cons_zero, List.getElem?_cons_succ, unN]
  obtain ⟨S'', l, g''⟩ := g.base hB
  cases hr : r.2.2 with
  | false =>
    rw [Bool.not_false, cdT]
    rw [hr, if_neg (by simp)] at e
    rw [e]
    exact FinD.less (DSt.le_trans hB g.le) (FinD.here ⟨.nilSlc, .nilSlc, rfl, S, Own.nil _, Own.nil _⟩)
  | true =>
    rw [Bool.not_true, cdF]
    rw [hr, if_pos rfl] at e
    rw [e]
    exact ⟨trivial, trivial, FinD.less l (FinD.here ⟨c, d, rfl, g''⟩)⟩
theorem store8 {r : List Int × List Int × Bool} {c d : D} {a : List AV} (hB : S.le B) (hn : S k8 = none) (h8 : B k8 = some ⟨3, [[.nilSlc, .nilSlc, .bool false]], a⟩) (g : Two B c r.1 d r.2.1 S') (e : takesS y m = if r.2.2 = true then (r.1, r.2.1, 0) else ([], [], 2)) :
    storeD S' 3 (.ptr k8 0) (efD c d r.2.2) fun _ S8 => C_ops_Takes_26 E w0 false (FinD E (TkQ S (takesS y m))) (.ptr k8 0) S8 := by
  refine stP (ds := [c, d, .bool r.2.2]) (g.le _ _ h8) (clA _) ⟨rfl, by decide, by simp⟩ fun a3 => ?_
  exact takes26 (r := r) (DSt.le_set hB hn) (DSt.set_same _ _ _) (g.upd h8) e
end
end Go.Proofs.Ytcboaonbfgjmgaa.d
end

section
open Go.Proofs Go Go.Am Go.Op
namespace Go.Proofs.Ytcboaonbfgjmgaa.d
set_option linter.unusedVariables false
set_option linter.unusedSimpArgs false
set_option maxRecDepth 100000
def inXC (y : In) : List D := [.int .u8 y.op, .int .i64 y.a, .int .i64 y.b, armX y.arms]
section
variable {E : Env} {w0 : World}
set_option maxHeartbeats 1000000 in
theorem ops_Takes_ok {y : In} {m : Mo} (hy : y.Ok) (hm : m.Fits) {S : DSt} : DFn Try.prog E w0 false f_ops_Takes [inX y, moX m] S (TkQ S (takesS y m)) := by
  refine V_ops_Takes_ok ?_
  unfold V_ops_Takes
  rw [inX, clA, oD]
  intro k a n
  rw [moX, clA, oD]
  intro k2 a2 n2
  obtain ⟨ne2, n2'⟩ := DSt.fresh n2
  generalize hS3 : (S.set k _).set k2 _ = S3
  have h2 : S3 k2 = some ⟨3, [moXC m], a2⟩ := by rw [← hS3]; exact DSt.set_same _ _ _
  have h0 : S3 k = some ⟨4, [inXC y], a⟩ := by rw [← hS3, DSt.set_ne _ _ _ (Ne.symm ne2)]; exact DSt.set_same _ _ _
  have hle : S.le S3 := by rw [← hS3]; exact DSt.le_set (DSt.le_new n) n2'
  clear hS3 n2
  have hok := hm.ok
  rw [laP h0 (by simp [inXC]), oD]
  refine DF.weak (es := [inD y]) ⟨inX_wk y, trivial⟩ ((ops_Size_ok hy).use ?_)
  rw [biEq, oD, beqD]
  cases his : isS y with
  | false =>
    have e : encS y = [] := by unfold encS; rw [if_neg (by rw [his]; simp)]
    rw [e, decide_eq_true (by rfl), cdT]
    have et : takesS y m = ([], [], 120) := by unfold takesS; rw [if_pos his]
    rw [et]
    exact FinD.less hle (FinD.here ⟨.nilSlc, .nilSlc, rfl, S, Own.nil _, Own.nil _⟩)
  | true =>
  have ns : ¬ isS y = false := by rw [his]; simp
  have hlen : ¬ (((encS y).length : Nat) : Int) = 0 := by
    unfold encS
    rw [if_pos his]
    unfold encB
    simp
    omega
  rw [decide_eq_false hlen, cdF]
  intro k8 a8 n8
  have h8 : (S3.set k8 ⟨3, [[.nilSlc, .nilSlc, .bool false]], a8⟩) k8 = some ⟨3, [[.nilSlc, .nilSlc, .bool false]], a8⟩ := DSt.set_same _ _ _
  have z8 : S k8 = none := by
    cases e : S k8 with
    | none => rfl
    | some o => rw [hle _ _ e] at n8; cases n8
  have h0' : (S3.set k8 ⟨3, [[.nilSlc, .nilSlc, .bool false]], a8⟩) k = some ⟨4, [inXC y], a⟩ := by rw [DSt.set_ne _ _ _ (fun e => by rw [← e, h0] at n8; cases n8)]; exact h0
  have h2' : (S3.set k8 ⟨3, [[.nilSlc, .nilSlc, .bool false]], a8⟩) k2 = some ⟨3, [moXC m], a2⟩ := by rw [DSt.set_ne _ _ _ (fun e => by rw [← e, h2] at n8; cases n8)]; exact h2
  have hle' : S.le (S3.set k8 ⟨3, [[.nilSlc, .nilSlc, .bool false]], a8⟩) := DSt.le_set hle z8
  have e3 : ([D.nilSlc, .nilSlc, .bool false]).length = 3 := rfl
  rw [e3]
  clear h0 h2 hle
  generalize S3.set k8 ⟨3, [[.nilSlc, .nilSlc, .bool false]], a8⟩ = S9 at h8 h0' h2' hle' ⊢
  have l0 : loadSc S9 (.ptr k 0) = some (.int .u8 y.op) := by rw [ldP h0']; rfl
  have l1 : loadSc S9 (.ptr k 1) = some (.int .i64 y.a) := by rw [ldP h0']; rfl
  have m1 : loadSc S9 (.ptr k2 1) = some (txsX m.texts) := by rw [ldP h2']; rfl
  have m2 : loadSc S9 (.ptr k2 2) = some (rosX m.funcs) := by rw [ldP h2']; rfl
  have li : loadAg S9 4 (.ptr k 0) = some (inX y) := by rw [laP h0' (by simp [inXC])]; rfl
  have lm : loadAg S9 3 (.ptr k2 0) = some (moX m) := by rw [laP h2' (by simp [moXC])]; rfl
  have lx : ∀ l : List Tx, lenSl (txsX l) = some (.int .i64 (l.length : Int)) := fun l => by simp [txsX]
  have lr : ∀ l : List Ro, lenSl (rosX l) = some (.int .i64 (l.length : Int)) := fun l => by simp [rosX]
  simp only [ofP, oD, Nat.zero_add, l0]
  refine tEq ?_
  rw [cdI]
  refine ⟨fun h6 => ?_, fun h6 => ?_⟩
  · have et : takesS y m = if decide (y.a < m.texts.length) = true then ([], [5], 0) else ([], [], 2) := by
      unfold takesS
      rw [if_neg ns]
      by_cases d : y.a < m.texts.length
      · rw [if_neg (by omega), if_neg (by omega), if_neg (by omega), if_pos (decide_eq_true d)]
        unfold plainS
        rw [if_neg (by omega), if_neg (by omega), if_pos h6]
      · rw [if_pos (by omega), if_neg (by rw [decide_eq_false d]; simp)]
    refine ⟨by trivial, ?_, ?_, trivial⟩
    · refine (ops_of_ok clN).useX ⟨trivial, lit_own (l := [5]) fun v S4 g1 => ⟨trivial, (ops_gives_ok (a := .nilSlc) (b := .nilSlc) (c := .bool true) g1.cells).useX ⟨trivial, ?_⟩⟩⟩
      have q1 : loadSc S4 (.ptr k 1) = some (.int .i64 y.a) := by rw [ldP (g1.le _ _ h0')]; rfl
      have q2 : loadSc S4 (.ptr k2 1) = some (txsX m.texts) := by rw [ldP (g1.le _ _ h2')]; rfl
      have f1 : S4 k = S9 k := by rw [g1.le _ _ h0', h0']
      have f2 : S4 k2 = S9 k2 := by rw [g1.le _ _ h2', h2']
      simp only [ofP, oD, orAny, Nat.zero_add, l1, m1, q1, q2, lx, biLt, fwP, f1, f2]
      simp only [ne_eq, reduceCtorEq, not_false_eq_true, true_and, and_true]
      refine (ops_given_ok (a := .nilSlc) (b := v) (c := .bool true) (clB _)).useX ?_
      exact store8 (E := E) (w0 := w0) (r := ([], [5], decide (y.a < m.texts.length))) hle' z8 h8 ⟨S9, Own.nil _, g1⟩ et
    · refine lit_own (l := [5]) fun v S4 g1 => ⟨trivial, (ops_of_ok clN).useX ⟨trivial, (ops_gives_ok (a := .nilSlc) (b := .nilSlc) (c := .bool true) g1.cells).useX ⟨trivial, ?_⟩⟩⟩
      have q1 : loadSc S4 (.ptr k 1) = some (.int .i64 y.a) := by rw [ldP (g1.le _ _ h0')]; rfl
      have q2 : loadSc S4 (.ptr k2 1) = some (txsX m.texts) := by rw [ldP (g1.le _ _ h2')]; rfl
      have f1 : S4 k = S9 k := by rw [g1.le _ _ h0', h0']
      have f2 : S4 k2 = S9 k2 := by rw [g1.le _ _ h2', h2']
      simp only [ofP, oD, orAny, Nat.zero_add, l1, m1, q1, q2, lx, biLt, fwP, f1, f2]
      simp only [ne_eq, reduceCtorEq, not_false_eq_true, true_and, and_true]
      refine (ops_given_ok (a := .nilSlc) (b := v) (c := .bool true) (clB _)).useX ?_
      exact store8 (E := E) (w0 := w0) (r := ([], [5], decide (y.a < m.texts.length))) hle' z8 h8 ⟨S9, Own.nil _, g1⟩ et
  refine tEq ?_
  rw [cdI]
  refine ⟨fun h50 => ?_, fun h50 => ?_⟩
  · simp only [oD, l1, m2, lr, biLt]
    rw [cdI]
    refine ⟨fun hlt => ?_, fun hlt => ?_⟩
    · obtain ⟨ha1, ha2⟩ := isS_a his h50
      obtain ⟨i, hi⟩ : ∃ i : Nat, i = y.a.toNat := ⟨_, rfl⟩
      have hi' : y.a = (i : Int) := by omega
      have hil : i < m.funcs.length := by omega
      obtain ⟨r, hr⟩ : ∃ r, r = m.funcs[i] := ⟨_, rfl⟩
      have ea : m.funcs[i]? = some r := by rw [List.getElem?_eq_getElem hil, hr]
      obtain ⟨p1, p2, _⟩ := hm.params r (by rw [hr]; exact List.getElem_mem _)
      have ex : idxSl 6 (rosX m.funcs) (.int .i64 (i : Int)) = some (.elt (roXR r) 0) := idxXE ea
      have et : takesS y m = (r.params, r.results, 0) := by
        unfold takesS
        rw [if_neg ns, if_neg (by omega), if_pos h50, ← hi, ea]
      rw [hi', ex, oD, show loadAg S9 6 (.elt (roXR r) 0) = some (.agg (roXR r)) from rfl, oD]
      intro k5 a5 n5
      refine stP (ds := roXR r) (DSt.set_same _ _ _) (clA _) ⟨rfl, by decide, by simp [roXR]⟩ fun a6 => ?_
      rw [DSt.set_set]
      have h5 : (S9.set k5 ⟨6, [roXR r], a6⟩) k5 = some ⟨6, [roXR r], a6⟩ := DSt.set_same _ _ _
      have h8' : (S9.set k5 ⟨6, [roXR r], a6⟩) k8 = some ⟨3, [[.nilSlc, .nilSlc, .bool false]], a8⟩ := by rw [DSt.set_ne _ _ _ (fun e => by rw [← e, h8] at n5; cases n5)]; exact h8
      have l5 : S.le (S9.set k5 ⟨6, [roXR r], a6⟩) := DSt.le_trans hle' (DSt.le_new n5)
      show optW (offD 1 (.ptr k5 0)) _
      generalize hS5 : S9.set k5 _ = S5
      have h5 : S5 k5 = some ⟨6, [roXR r], a6⟩ := by rw [← hS5]; exact h5
      have h8' : S5 k8 = some ⟨3, [[.nilSlc, .nilSlc, .bool false]], a8⟩ := by rw [← hS5]; exact h8'
      have l5 : S.le S5 := by rw [← hS5]; exact l5
      have q1 : loadSc S5 (.ptr k5 1) = some (iX r.params) := by rw [ldP h5]; rfl
      have q2 : loadSc S5 (.ptr k5 2) = some (iX r.results) := by rw [ldP h5]; rfl
      simp only [ofP, oD, Nat.zero_add, q1]
      refine ⟨trivial, (clone_ok (x := true) (by omega)).toX fun c S4 g1 => ⟨trivial, (ops_of_ok g1.cells).useX ⟨trivial, ?_⟩⟩⟩
      have q3 : loadSc S4 (.ptr k5 2) = some (iX r.results) := by rw [ldP (g1.le _ _ h5)]; rfl
      have f1 : S4 k5 = S5 k5 := by rw [g1.le _ _ h5, h5]
      simp only [oD, orAny, q2, q3]
      refine ⟨⟨⟨by simp, rfl⟩, ⟨by simp, f1⟩, trivial⟩, (clone_ok (x := true) (by omega)).toX fun d S6 g2 => ⟨trivial, (ops_gives_ok (a := c) (b := .nilSlc) (c := .bool true) g2.cells).useX ⟨trivial, ?_⟩⟩⟩
      have := store8 (E := E) (w0 := w0) (y := y) (m := m) (r := (r.params, r.results, true)) l5 z8 h8' ⟨S4, g1, g2⟩ (by rw [et, if_pos rfl])
      simp only [true_and]
      exact this
    · exact takes26 (r := ([], [], false)) hle' h8 ⟨S9, Own.nil _, Own.nil _⟩ (by unfold takesS; rw [if_neg ns, if_pos (by omega), if_neg (by simp)])
  refine tIn l0 ?_
  rw [cdI]
  refine ⟨fun h36 => ?_, fun h36 => ?_⟩
  · rw [li, oD, lm, oD]
    refine DF.weak (es := [inD y, moD m]) ⟨inX_wk y, moX_wk m, trivial⟩ ((ops_made_ok hy hm (isS_b his)).use ?_)
    rintro v S' ⟨c, d, rfl, g⟩
    refine store8 (r := madeS y m) hle' z8 h8 g ?_
    unfold takesS
    rw [if_neg ns, if_neg (by omega), if_neg h50, if_pos h36]
  · rw [li, oD]
    obtain ⟨o1, o2⟩ := isS_op his
    refine DF.weak (es := [inD y]) ⟨inX_wk y, trivial⟩ ((ops_plain_ok hy (by omega)).use ?_)
    rintro v S' ⟨c, d, rfl, g⟩
    refine store8 (r := ((plainS y).1, (plainS y).2, true)) hle' z8 h8 g ?_
    unfold takesS
    rw [if_neg ns, if_neg (by omega), if_neg h50, if_neg h36, if_pos rfl]
end
end Go.Proofs.Ytcboaonbfgjmgaa.d
end
