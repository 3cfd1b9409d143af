/-
  Texts Cf, as far as they are used.
-/
import Derived.Test.YtcboaonbfgjmgaaZaw
section
open Go.Proofs Go Go.Am Go.Op
namespace Go.Proofs.Ytcboaonbfgjmgaa.d
set_option linter.unusedVariables false
set_option linter.unusedSimpArgs false
set_option maxRecDepth 100000
theorem fldB_snoc (y : In) (f : Fld) : ∀ (l : List Fld) (i : Nat), fldB y i (l ++ [f]) = fldB y i l ++ fixS (y.num (i + l.length)) f.size
  | [], i => by simp [fldB]
  | g :: l, i => by
    rw [List.cons_append, fldB, fldB, fldB_snoc y f l (i + 1), List.append_assoc, List.length_cons, show i + 1 + l.length = i + (l.length + 1) by omega]
theorem fldOk_snoc (y : In) (f : Fld) : ∀ (l : List Fld) (i : Nat), fldOk y i (l ++ [f]) = (fldOk y i l && f.may (y.num (i + l.length)))
  | [], i => by simp [fldOk]
  | g :: l, i => by
    rw [List.cons_append, fldOk, fldOk, fldOk_snoc y f l (i + 1), Bool.and_assoc, List.length_cons, show i + 1 + l.length = i + (l.length + 1) by omega]
theorem fldB_short (y : In) : ∀ (l : List Fld) (i : Nat), (∀ f ∈ l, f.size ≤ 8) → (fldB y i l).length ≤ 8 * l.length
  | [], i, _ => by simp [fldB]
  | g :: l, i, h => by
    have := fldB_short y l (i + 1) fun f hf => h f (List.mem_cons_of_mem _ hf)
    have := h g List.mem_cons_self
    rw [fldB, List.length_append, fixS_length, List.length_cons]
    omega
theorem FldD.load {row : List D} {f : Fld} (h : FldD row f) : row.length = 2 := by obtain ⟨fv, rfl, _⟩ := h; rfl
section
variable {E : Env} {w0 : World} {x : Bool} {S0 S : DSt} {t : D} {bs : List Int} {y : In}
theorem enc_end {B : DSt} (h : GrwB B t bs S) (hB : S0.le B) {ok : Bool} (hok : isS y = ok) (hbs : ok = true → bs = encB y) :
    J_ops_Encode_1 E w0 x (FinD E fun d' S' => d' = .tup [bD (encS y), .int .i64 (if isS y = true then 0 else 120)] ∧ S' = S0) (.bool ok) t S := by
  unfold J_ops_Encode_1
  rw [unN, oD]
  cases ok with
  | false =>
    simp only [Bool.not_false, cdT]
    refine FinD.less (DSt.le_trans hB h.le) (FinD.nilT (lp := []) (sz := 1) (FinD.here ⟨?_, rfl⟩))
    rw [encS, hok]; rfl
  | true =>
    simp only [Bool.not_true, cdF]
    obtain ⟨S', hl, hg⟩ := h.base hB
    refine FinD.less hl (hg.finT (lp := []) (FinD.here ⟨?_, rfl⟩))
    rw [encS, hok, hbs rfl]; rfl
theorem ops_Encode_ok (ho : y.Ok) : Pure Try.prog E w0 f_ops_Encode [inD y] (.tup [bD (encS y), .int .i64 (if isS y = true then 0 else 120)]) := fun x S => by
  refine V_ops_Encode_ok ?_
  unfold V_ops_Encode
  rw [inD, clA, oD]
  intro k0 a0 n0
  have b0 : (S.set k0 ⟨4, [inC y], a0⟩) k0 = some ⟨4, [inC y], a0⟩ := DSt.set_same _ _ _
  have l0 : ∀ {S' : DSt}, (S.set k0 ⟨(inC y).length, [inC y], a0⟩).le S' → ∀ i, loadSc S' (.ptr k0 i) = (inC y)[i]? := fun h i => ldP (h _ _ b0)
  have hle : S.le (S.set k0 ⟨(inC y).length, [inC y], a0⟩) := DSt.le_new n0
  rw [ofP, oD, l0 (DSt.le_refl _), show (inC y)[0 + 0]? = some (.int .u8 y.op) from rfl, oD]
  refine ops_layout_ok.use ?_
  simp only [exD, List.getElem?_cons_zero, List.getElem?_cons_succ, oD]
  rw [l0 (DSt.le_refl _), show (inC y)[0 + 0]? = some (.int .u8 y.op) from rfl, oD]
  simp only [fillR, clI, List.length_cons, List.length_nil, List.replicate, List.set]
  rw [if_pos (by decide)]
  refine lit_lst rfl ?_
  refine (ops_put_ok (bs := []) (ms := [y.op]) (Grw.nil _ 1) (by simp)).use fun t1 S1 g1 => ?_
  rw [lnL, oD, rowsF_length]
  obtain ⟨l, hl⟩ : ∃ l, l = (lay y.op).getD [] := ⟨_, rfl⟩
  have hl2 : l.length ≤ 2 := by rw [hl]; exact lay_length
  have hgood : ∀ f ∈ l, goodF f := by rw [hl]; exact goodF_lay _
  have hs8 : ∀ f ∈ l, f.size ≤ 8 := fun f hf => goodF_size (hgood f hf)
  rw [← hl]
  refine loop_ops_Encode_0 (I := fun n x1 x4 x5 x6 x21 x22 x23 S' => ∃ (B : DSt) (j : Nat), (S.set k0 ⟨(inC y).length, [inC y], a0⟩).le B ∧ j + n = l.length ∧ GrwB B x6 (y.op :: fldB y 0 (l.take j)) S' ∧
      x1 = .ptr k0 0 ∧ x4 = .lst (rowsF y.op) 2 ∧ x5 = .bool ((lay y.op).isSome && fldOk y 0 (l.take j)) ∧ x21 = .lst (rowsF y.op) 2 ∧ x22 = .int .i64 (l.length : Int) ∧ x23 = .int .i64 (j : Int)) ?_ (n := l.length)
    ⟨_, 0, DSt.le_refl _, by omega, by simpa [fldB] using g1, rfl, rfl, by simp [fldOk], rfl, rfl, rfl⟩
  rintro n _ _ _ x6 _ _ _ S2 ⟨B, j, hB, hj, g2, rfl, rfl, rfl, rfl, rfl, rfl⟩
  unfold B_ops_Encode_0
  have hle2 := DSt.le_trans hB g2.le
  rw [biLt, oD, cdI]
  refine ⟨fun hlt => ?_, fun hge => ?_⟩
  · have hlt : j < l.length := by omega
    obtain ⟨f, hf⟩ : ∃ f, f = l[j] := ⟨_, rfl⟩
    have hjf : l[j]? = some f := by rw [List.getElem?_eq_getElem hlt, hf]
    obtain ⟨row, hrow, hfd⟩ := rowsF_at (op := y.op) (i := j) (f := f) (by rw [← hl]; exact hjf)
    obtain ⟨hg1, _⟩ := hgood f (by rw [hf]; exact List.getElem_mem _)
    have hg8 := hs8 f (by rw [hf]; exact List.getElem_mem _)
    have hrl := hfd.load
    rw [idxL hrow, oD, laE, if_pos ⟨by decide, by omega⟩, oD, List.drop_zero, List.take_of_length_le (by omega)]
    intro k a nk
    have hcl : cellsD (.agg row) = some row := rfl
    refine stP (ds := row) (DSt.set_same _ _ _) (clA _) ⟨hrl, by decide, by simp⟩ fun a => ?_
    rw [DSt.set_set]
    have hset : setManyD [D.int .i64 0, .nilFn] 0 row = row := by
      obtain ⟨fv, rfl, _⟩ := hfd; rfl
    rw [hset]
    have g3 := g2.under (o := ⟨[D.int .i64 0, .nilFn].length, [row], a⟩) nk
    have zk : B k = none := by
      cases e : B k with
      | none => rfl
      | some o => rw [g2.le _ _ e] at nk; cases nk
    have hB3 : (S.set k0 ⟨(inC y).length, [inC y], a0⟩).le (B.set k ⟨[D.int .i64 0, .nilFn].length, [row], a⟩) := DSt.le_trans hB (DSt.le_new zk)
    have hnum : ∀ n', n' = y.num j → J_ops_Encode_0 E w0 x (fun x1 x4 x5 x6 x21 x22 x23 S' => ∃ m, m < n ∧ ∃ (B : DSt) (j : Nat), (S.set k0 ⟨(inC y).length, [inC y], a0⟩).le B ∧ j + m = l.length ∧ GrwB B x6 (y.op :: fldB y 0 (l.take j)) S' ∧
        x1 = .ptr k0 0 ∧ x4 = .lst (rowsF y.op) 2 ∧ x5 = .bool ((lay y.op).isSome && fldOk y 0 (l.take j)) ∧ x21 = .lst (rowsF y.op) 2 ∧ x22 = .int .i64 (l.length : Int) ∧ x23 = .int .i64 (j : Int))
        (FinD E fun d' S' => d' = .tup [bD (encS y), .int .i64 (if isS y = true then 0 else 120)] ∧ S' = S) (.ptr k0 0) (.lst (rowsF y.op) 2) (.bool ((lay y.op).isSome && fldOk y 0 (l.take j))) x6 (.ptr k 0) (.int .i64 n') (.lst (rowsF y.op) 2) (.int .i64 (l.length : Int)) (.int .i64 (j : Int))
        (S2.set k ⟨[D.int .i64 0, .nilFn].length, [row], a⟩) := by
      rintro _ rfl
      unfold J_ops_Encode_0
      rw [laP (DSt.set_same _ _ _) ⟨by decide, by omega⟩, oD, List.drop_zero, List.take_of_length_le (by omega)]
      have hi : I64 (y.num j) := by unfold In.num; split; exact ho.b; exact ho.a
      have hbl := fldB_short y (l.take j) 0 fun f hf => hs8 f (List.mem_of_mem_take hf)
      refine (ops_number_ok g3 hfd hi hg1 hg8 (by rw [List.length_cons]; rw [List.length_take] at hbl; omega)).use ?_
      rintro v S4 ⟨t4, rfl, g4⟩
      simp only [exD, List.getElem?_cons_zero, List.getElem?_cons_succ, oD]
      have e1 : ∀ p q : Bool, (∀ K : D → Prop, K (.bool (p && q)) → optW (valGD (wantsD (.bool p) true) (some (.bool q))) fun v55 => optW (pickD (.bool p) v55 (.bool false)) fun v56 => K v56) := by
        intro p q K hK
        cases p <;> cases q <;> simpa using hK
      refine e1 _ _ (fun v30 => optW (binI .add (.int .i64 (j : Int)) (.int .i64 1)) fun v31 => _) ?_
      rw [biAdd, oD, wrap_i64 (by omega) (by omega)]
      have htk : l.take (j + 1) = l.take j ++ [f] := by rw [List.take_add_one, hjf]; rfl
      have hlj : (l.take j).length = j := by rw [List.length_take]; omega
      refine ⟨n - 1, by omega, _, j + 1, hB3, by omega, ?_, by trivial, by trivial, ?_, by trivial, by trivial, by trivial⟩
      · rw [htk, fldB_snoc, hlj, Nat.zero_add, ← List.cons_append]; exact g4
      · rw [htk, fldOk_snoc, hlj, Nat.zero_add, Bool.and_assoc]
    have hle3 : (S.set k0 ⟨(inC y).length, [inC y], a0⟩).le (S2.set k ⟨[D.int .i64 0, .nilFn].length, [row], a⟩) := DSt.le_trans hB3 g3.le
    rw [ofP, oD, l0 hle3, show (inC y)[0 + 1]? = some (.int .i64 y.a) from rfl, oD, biEq, oD, cdB]
    refine ⟨fun h1 => ?_, fun h1 => ?_⟩
    · rw [ofP, oD, l0 hle3, show (inC y)[0 + 2]? = some (.int .i64 y.b) from rfl, oD]
      have h1 : j = 1 := by have : (j : Int) = 1 := by simpa using h1
                            omega
      exact hnum _ (by unfold In.num; rw [if_pos h1])
    · have h1 : ¬ j = 1 := by have : ¬ (j : Int) = 1 := by simpa using h1
                              omega
      exact hnum _ (by unfold In.num; rw [if_neg h1])
  · have hj' : j = l.length := by omega
    subst hj'
    rw [List.take_length] at g2 ⊢
    have hisS : isS y = (((lay y.op).isSome && fldOk y 0 l) &&
        if y.op = 49 then decide (y.arms.length ≤ 65535) && y.arms.all (armOk (IntKind.u8.wrap y.a)) && decide (0 ≤ y.b ∧ y.b ≤ 4294967295)
        else decide (y.arms.length = 0) && (decide (2 ≤ l.length) || decide (y.b = 0)) && (decide (1 ≤ l.length) || decide (y.a = 0))) := by rw [hl]; rfl
    have henc : encB y = y.op :: fldB y 0 l ++ if y.op = 49 then fixS y.arms.length 2 ++ armsB y.arms ++ fixS y.b 4 else [] := by rw [hl]; rfl
    generalize hok : ((lay y.op).isSome && fldOk y 0 l) = ok at hisS ⊢
    have hbl := fldB_short y l 0 hs8
    have hSB : S.le B := DSt.le_trans hle hB
    rw [ofP, oD, l0 hle2, show (inC y)[0 + 0]? = some (.int .u8 y.op) from rfl, oD, biEq, oD]
    have nope : ∀ {ok' : Bool}, isS y = ok' → (ok' = true → y.op :: fldB y 0 l = encB y) → J_ops_Encode_1 E w0 x (FinD E fun d' S' => d' = .tup [bD (encS y), .int .i64 (if isS y = true then 0 else 120)] ∧ S' = S) (.bool ok') x6 S2 := fun h1 h2 => enc_end g2 hSB h1 h2
    have ll3 : loadSc S2 (.ptr k0 3) = some (armD y.arms) := l0 hle2 3
    have ll2 : loadSc S2 (.ptr k0 2) = some (.int .i64 y.b) := l0 hle2 2
    have ll1 : loadSc S2 (.ptr k0 1) = some (.int .i64 y.a) := l0 hle2 1
    obtain ⟨p1, hp1⟩ : ∃ p, decide ((y.arms.length : Int) > 0) = p := ⟨_, rfl⟩
    obtain ⟨p2, hp2⟩ : ∃ p, decide ((l.length : Int) < 2) = p := ⟨_, rfl⟩
    obtain ⟨p3, hp3⟩ : ∃ p, (y.b != 0) = p := ⟨_, rfl⟩
    obtain ⟨p4, hp4⟩ : ∃ p, decide ((l.length : Int) < 1) = p := ⟨_, rfl⟩
    obtain ⟨p5, hp5⟩ : ∃ p, (y.a != 0) = p := ⟨_, rfl⟩
    have key : (decide (y.arms.length = 0) && (decide (2 ≤ l.length) || decide (y.b = 0)) && (decide (1 ≤ l.length) || decide (y.a = 0))) = (!p1 && (!p2 || !p3) && (!p4 || !p5)) := by
      have q1 : decide (y.arms.length = 0) = !p1 := by rw [← hp1, ← decide_not]; exact decide_eq_decide.2 (by omega)
      have q2 : decide (2 ≤ l.length) = !p2 := by rw [← hp2, ← decide_not]; exact decide_eq_decide.2 (by omega)
      have q3 : decide (y.b = 0) = !p3 := by rw [← hp3]; by_cases h : y.b = 0 <;> simp [h]
      have q4 : decide (1 ≤ l.length) = !p4 := by rw [← hp4, ← decide_not]; exact decide_eq_decide.2 (by omega)
      have q5 : decide (y.a = 0) = !p5 := by rw [← hp5]; by_cases h : y.a = 0 <;> simp [h]
      rw [q1, q2, q3, q4, q5]
    by_cases h49 : y.op = 49
    · have e49 : (y.op == 49) = true := by simp [h49]
      rw [if_pos h49] at hisS henc
      simp only [e49, wdB, beq_self_eq_true, vdT, oD, pdB, if_true]
      cases ok with
      | true =>
        simp only [cdT]
        rw [laP (hle2 _ _ b0) ⟨by decide, by simp [inC]⟩, oD]
        show DFn Try.prog E w0 x f_ops_arms [x6, inD y] S2 _
        refine (ops_arms_ok g2 ho h49 (by rw [List.length_cons]; omega)).use ?_
        rintro v S3 ⟨t3, bs3, rfl, g3, hb3⟩
        simp only [exD, List.getElem?_cons_zero, List.getElem?_cons_succ, oD]
        refine enc_end g3 hSB (by rw [hisS, Bool.true_and]; rfl) fun h => ?_
        simp only [Bool.and_eq_true, decide_eq_true_eq] at h
        rw [hb3 h.1.1, henc]
      | false =>
        have hn := nope (ok' := false) (by rw [hisS, Bool.false_and]) (fun h => by cases h)
        simp only [cdF, ofP, oD, Nat.zero_add, ll3, armD_len, biGt, lnL, rowsF_length, ← hl, biLt, hp1, hp2, hp4]
        cases p1 <;> cases p2 <;> cases p3 <;> cases p4 <;> cases p5 <;> simp [ll1, ll2, hp3, hp5] <;> exact hn
    · have e49 : (y.op == 49) = false := by simp [h49]
      rw [if_neg h49] at hisS henc
      rw [List.append_nil] at henc
      rw [key] at hisS
      simp only [e49, wdB, vdF, oD, pdB, Bool.false_eq_true, if_false, cdF, show ((false == true) = false) from rfl]
      simp only [ofP, oD, Nat.zero_add, ll3, armD_len, biGt, lnL, rowsF_length, ← hl, biLt, hp1, hp2, hp4]
      cases p1 <;> cases p2 <;> cases p3 <;> cases p4 <;> cases p5 <;> simp [ll1, ll2, hp3, hp5] <;> exact nope (by rw [hisS]; simp) (fun _ => henc.symm)
theorem ops_Size_ok (ho : y.Ok) : Pure Try.prog E w0 f_ops_Size [inD y] (.int .i64 ((encS y).length : Int)) := fun x S => by
  refine V_ops_Size_ok ?_
  unfold V_ops_Size
  rw [inD, clA, oD]
  intro k0 a0 n0
  rw [laP (DSt.set_same _ _ _) ⟨by decide, by simp [inC]⟩, oD]
  refine (ops_Encode_ok ho).use ?_
  simp only [exD, List.getElem?_cons_zero, List.getElem?_cons_succ, oD, bD_len]
  exact FinD.drop n0 FinD.pure
end
end Go.Proofs.Ytcboaonbfgjmgaa.d
end
