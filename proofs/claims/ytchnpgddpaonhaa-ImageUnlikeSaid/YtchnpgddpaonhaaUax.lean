/-
  Texts Cf Ci Dm Ve Cj Ck, as far as they are used.
-/
import Derived.Test.YtchnpgddpaonhaaUaw
import Derived.Test.YtchnpgddpaonhaaUav
import Derived.Test.YtchnpgddpaonhaaRows
import Derived.Test.YtchnpgddpaonhaaUau
import Derived.KernelRfl
section
open Go.Proofs Go Go.Am Go.Op
namespace Go.Proofs.Ytchnpgddpaonhaa.d
set_option linter.unusedVariables false
set_option linter.unusedSimpArgs false
set_option maxRecDepth 100000
theorem fldB_snoc (y : In) (f : Fld) : ∀ (l : List Fld) (i : Nat), fldB y i (l ++ [f]) = fldB y i l ++ fixS (y.num (i + l.length)) f.size
  | [], i => by simp [fldB]
  | g :: l, i => by
    rw [List.cons_append, fldB, fldB, fldB_snoc y f l (i + 1), List.append_assoc, List.length_cons, show i + 1 + l.length = i + (l.length + 1) by omega]
theorem fldOk_snoc (y : In) (f : Fld) : ∀ (l : List Fld) (i : Nat), fldOk y i (l ++ [f]) = (fldOk y i l && f.may (y.num (i + l.length)))
  | [], i => by simp [fldOk]
  | g :: l, i => by
    rw [List.cons_append, fldOk, fldOk, fldOk_snoc y f l (i + 1), Bool.and_assoc, List.length_cons, show i + 1 + l.length = i + (l.length + 1) by omega]
theorem fldB_short (y : In) : ∀ (l : List Fld) (i : Nat), (∀ f ∈ l, f.size ≤ 8) → (fldB y i l).length ≤ 8 * l.length
  | [], i, _ => by simp [fldB]
  | g :: l, i, h => by
    have := fldB_short y l (i + 1) fun f hf => h f (List.mem_cons_of_mem _ hf)
    have := h g List.mem_cons_self
    rw [fldB, List.length_append, fixS_length, List.length_cons]
    omega
theorem FldD.load {row : List D} {f : Fld} (h : FldD row f) : row.length = 2 := by obtain ⟨fv, rfl, _⟩ := h; rfl
section
variable {E : Env} {w0 : World} {x : Bool} {S0 S : DSt} {t : D} {bs : List Int} {y : In}
theorem enc_end {B : DSt} (h : GrwB B t bs S) (hB : S0.le B) {ok : Bool} (hok : isS y = ok) (hbs : ok = true → bs = encB y) :
    J_ops_Encode_1 E w0 x (FinD E fun d' S' => d' = .tup [bD (encS y), .int .i64 (if isS y = true then 0 else 120)] ∧ S' = S0) (.bool ok) t S := by
  unfold J_ops_Encode_1
  rw [unN, oD]
  cases ok with
  | false =>
    simp only [Bool.not_false, cdT]
    refine FinD.less (DSt.le_trans hB h.le) (FinD.nilT (lp := []) (sz := 1) (FinD.here ⟨?_, rfl⟩))
    rw [encS, hok]; rfl
  | true =>
    simp only [Bool.not_true, cdF]
    obtain ⟨S', hl, hg⟩ := h.base hB
    refine FinD.less hl (hg.finT (lp := []) (FinD.here ⟨?_, rfl⟩))
    rw [encS, hok, hbs rfl]; rfl
theorem ops_Encode_ok (ho : y.Ok) : Pure Try.prog E w0 f_ops_Encode [inD y] (.tup [bD (encS y), .int .i64 (if isS y = true then 0 else 120)]) := fun x S => by
  refine V_ops_Encode_ok ?_
  unfold V_ops_Encode
  rw [inD, clA, oD]
  intro k0 a0 n0
  have b0 : (S.set k0 ⟨4, [inC y], a0⟩) k0 = some ⟨4, [inC y], a0⟩ := DSt.set_same _ _ _
  have l0 : ∀ {S' : DSt}, (S.set k0 ⟨(inC y).length, [inC y], a0⟩).le S' → ∀ i, loadSc S' (.ptr k0 i) = (inC y)[i]? := fun h i => ldP (h _ _ b0)
  have hle : S.le (S.set k0 ⟨(inC y).length, [inC y], a0⟩) := DSt.le_new n0
  rw [ofP, oD, l0 (DSt.le_refl _), show (inC y)[0 + 0]? = some (.int .u8 y.op) from rfl, oD]
  refine ops_layout_ok.use ?_
  simp only [exD, List.getElem?_cons_zero, List.getElem?_cons_succ, oD]
  rw [l0 (DSt.le_refl _), show (inC y)[0 + 0]? = some (.int .u8 y.op) from rfl, oD]
  simp only [fillR, clI, List.length_cons, List.length_nil, List.replicate, List.set]
  rw [if_pos (by decide)]
  refine lit_lst rfl ?_
  refine (ops_put_ok (bs := []) (ms := [y.op]) (Grw.nil _ 1) (by simp)).use fun t1 S1 g1 => ?_
  rw [lnL, oD, rowsF_length]
  obtain ⟨l, hl⟩ : ∃ l, l = (lay y.op).getD [] := ⟨_, rfl⟩
  have hl2 : l.length ≤ 2 := by rw [hl]; exact lay_length
  have hgood : ∀ f ∈ l, goodF f := by rw [hl]; exact goodF_lay _
  have hs8 : ∀ f ∈ l, f.size ≤ 8 := fun f hf => goodF_size (hgood f hf)
  rw [← hl]
  refine loop_ops_Encode_0 (I := fun n x1 x4 x5 x6 x21 x22 x23 S' => ∃ (B : DSt) (j : Nat), (S.set k0 ⟨(inC y).length, [inC y], a0⟩).le B ∧ j + n = l.length ∧ GrwB B x6 (y.op :: fldB y 0 (l.take j)) S' ∧
      x1 = .ptr k0 0 ∧ x4 = .lst (rowsF y.op) 2 ∧ x5 = .bool ((lay y.op).isSome && fldOk y 0 (l.take j)) ∧ x21 = .lst (rowsF y.op) 2 ∧ x22 = .int .i64 (l.length : Int) ∧ x23 = .int .i64 (j : Int)) ?_ (n := l.length)
    ⟨_, 0, DSt.le_refl _, by omega, by simpa [fldB] using g1, rfl, rfl, by simp [fldOk], rfl, rfl, rfl⟩
  rintro n _ _ _ x6 _ _ _ S2 ⟨B, j, hB, hj, g2, rfl, rfl, rfl, rfl, rfl, rfl⟩
  unfold B_ops_Encode_0
  have hle2 := DSt.le_trans hB g2.le
  rw [biLt, oD, cdI]
  refine ⟨fun hlt => ?_, fun hge => ?_⟩
  · have hlt : j < l.length := by omega
    obtain ⟨f, hf⟩ : ∃ f, f = l[j] := ⟨_, rfl⟩
    have hjf : l[j]? = some f := by rw [List.getElem?_eq_getElem hlt, hf]
    obtain ⟨row, hrow, hfd⟩ := rowsF_at (op := y.op) (i := j) (f := f) (by rw [← hl]; exact hjf)
    obtain ⟨hg1, _⟩ := hgood f (by rw [hf]; exact List.getElem_mem _)
    have hg8 := hs8 f (by rw [hf]; exact List.getElem_mem _)
    have hrl := hfd.load
    rw [idxL hrow, oD, laE, if_pos ⟨by decide, by omega⟩, oD, List.drop_zero, List.take_of_length_le (by omega)]
    intro k a nk
    have hcl : cellsD (.agg row) = some row := rfl
    refine stP (ds := row) (DSt.set_same _ _ _) (clA _) ⟨hrl, by decide, by simp⟩ fun a => ?_
    rw [DSt.set_set]
    have hset : setManyD [D.int .i64 0, .nilFn] 0 row = row := by
      obtain ⟨fv, rfl, _⟩ := hfd; rfl
    rw [hset]
    have g3 := g2.under (o := ⟨[D.int .i64 0, .nilFn].length, [row], a⟩) nk
    have zk : B k = none := by
      cases e : B k with
      | none => rfl
      | some o => rw [g2.le _ _ e] at nk; cases nk
    have hB3 : (S.set k0 ⟨(inC y).length, [inC y], a0⟩).le (B.set k ⟨[D.int .i64 0, .nilFn].length, [row], a⟩) := DSt.le_trans hB (DSt.le_new zk)
    have hnum : ∀ n', n' = y.num j → J_ops_Encode_0 E w0 x (fun x1 x4 x5 x6 x21 x22 x23 S' => ∃ m, m < n ∧ ∃ (B : DSt) (j : Nat), (S.set k0 ⟨(inC y).length, [inC y], a0⟩).le B ∧ j + m = l.length ∧ GrwB B x6 (y.op :: fldB y 0 (l.take j)) S' ∧
        x1 = .ptr k0 0 ∧ x4 = .lst (rowsF y.op) 2 ∧ x5 = .bool ((lay y.op).isSome && fldOk y 0 (l.take j)) ∧ x21 = .lst (rowsF y.op) 2 ∧ x22 = .int .i64 (l.length : Int) ∧ x23 = .int .i64 (j : Int))
        (FinD E fun d' S' => d' = .tup [bD (encS y), .int .i64 (if isS y = true then 0 else 120)] ∧ S' = S) (.ptr k0 0) (.lst (rowsF y.op) 2) (.bool ((lay y.op).isSome && fldOk y 0 (l.take j))) x6 (.ptr k 0) (.int .i64 n') (.lst (rowsF y.op) 2) (.int .i64 (l.length : Int)) (.int .i64 (j : Int))
        (S2.set k ⟨[D.int .i64 0, .nilFn].length, [row], a⟩) := by
      rintro _ rfl
      unfold J_ops_Encode_0
      rw [laP (DSt.set_same _ _ _) ⟨by decide, by omega⟩, oD, List.drop_zero, List.take_of_length_le (by omega)]
      have hi : I64 (y.num j) := by unfold In.num; split; exact ho.b; exact ho.a
      have hbl := fldB_short y (l.take j) 0 fun f hf => hs8 f (List.mem_of_mem_take hf)
      refine (ops_number_ok g3 hfd hi hg1 hg8 (by rw [List.length_cons]; rw [List.length_take] at hbl; omega)).use ?_
      rintro v S4 ⟨t4, rfl, g4⟩
      simp only [exD, List.getElem?_cons_zero, List.getElem?_cons_succ, oD]
      have e1 : ∀ p q : Bool, (∀ K : D → Prop, K (.bool (p && q)) → optW (valGD (wantsD (.bool p) true) (some (.bool q))) fun v55 => optW (pickD (.bool p) v55 (.bool false)) fun v56 => K v56) := by
        intro p q K hK
        cases p <;> cases q <;> simpa using hK
      refine e1 _ _ (fun v30 => optW (binI .add (.int .i64 (j : Int)) (.int .i64 1)) fun v31 => _) ?_
      rw [biAdd, oD, wrap_i64 (by omega) (by omega)]
      have htk : l.take (j + 1) = l.take j ++ [f] := by rw [List.take_add_one, hjf]; rfl
      have hlj : (l.take j).length = j := by rw [List.length_take]; omega
      refine ⟨n - 1, by omega, _, j + 1, hB3, by omega, ?_, by trivial, by trivial, ?_, by trivial, by trivial, by trivial⟩
      · rw [htk, fldB_snoc, hlj, Nat.zero_add, ← List.cons_append]; exact g4
      · rw [htk, fldOk_snoc, hlj, Nat.zero_add, Bool.and_assoc]
    have hle3 : (S.set k0 ⟨(inC y).length, [inC y], a0⟩).le (S2.set k ⟨[D.int .i64 0, .nilFn].length, [row], a⟩) := DSt.le_trans hB3 g3.le
    rw [ofP, oD, l0 hle3, show (inC y)[0 + 1]? = some (.int .i64 y.a) from rfl, oD, biEq, oD, cdB]
    refine ⟨fun h1 => ?_, fun h1 => ?_⟩
    · rw [ofP, oD, l0 hle3, show (inC y)[0 + 2]? = some (.int .i64 y.b) from rfl, oD]
      have h1 : j = 1 := by have : (j : Int) = 1 := by simpa using h1
                            omega
      exact hnum _ (by unfold In.num; rw [if_pos h1])
    · have h1 : ¬ j = 1 := by have : ¬ (j : Int) = 1 := by simpa using h1
                              omega
      exact hnum _ (by unfold In.num; rw [if_neg h1])
  · have hj' : j = l.length := by omega
    subst hj'
    rw [List.take_length] at g2 ⊢
    have hisS : isS y = (((lay y.op).isSome && fldOk y 0 l) &&
        if y.op = 49 then decide (y.arms.length ≤ 65535) && y.arms.all (armOk (IntKind.u8.wrap y.a)) && decide (0 ≤ y.b ∧ y.b ≤ 4294967295)
        else decide (y.arms.length = 0) && (decide (2 ≤ l.length) || decide (y.b = 0)) && (decide (1 ≤ l.length) || decide (y.a = 0))) := by rw [hl]; rfl
    have henc : encB y = y.op :: fldB y 0 l ++ if y.op = 49 then fixS y.arms.length 2 ++ armsB y.arms ++ fixS y.b 4 else [] := by rw [hl]; rfl
    generalize hok : ((lay y.op).isSome && fldOk y 0 l) = ok at hisS ⊢
    have hbl := fldB_short y l 0 hs8
    have hSB : S.le B := DSt.le_trans hle hB
    rw [ofP, oD, l0 hle2, show (inC y)[0 + 0]? = some (.int .u8 y.op) from rfl, oD, biEq, oD]
    have nope : ∀ {ok' : Bool}, isS y = ok' → (ok' = true → y.op :: fldB y 0 l = encB y) → J_ops_Encode_1 E w0 x (FinD E fun d' S' => d' = .tup [bD (encS y), .int .i64 (if isS y = true then 0 else 120)] ∧ S' = S) (.bool ok') x6 S2 := fun h1 h2 => enc_end g2 hSB h1 h2
    have ll3 : loadSc S2 (.ptr k0 3) = some (armD y.arms) := l0 hle2 3
    have ll2 : loadSc S2 (.ptr k0 2) = some (.int .i64 y.b) := l0 hle2 2
    have ll1 : loadSc S2 (.ptr k0 1) = some (.int .i64 y.a) := l0 hle2 1
    obtain ⟨p1, hp1⟩ : ∃ p, decide ((y.arms.length : Int) > 0) = p := ⟨_, rfl⟩
    obtain ⟨p2, hp2⟩ : ∃ p, decide ((l.length : Int) < 2) = p := ⟨_, rfl⟩
    obtain ⟨p3, hp3⟩ : ∃ p, (y.b != 0) = p := ⟨_, rfl⟩
    obtain ⟨p4, hp4⟩ : ∃ p, decide ((l.length : Int) < 1) = p := ⟨_, rfl⟩
    obtain ⟨p5, hp5⟩ : ∃ p, (y.a != 0) = p := ⟨_, rfl⟩
    have key : (decide (y.arms.length = 0) && (decide (2 ≤ l.length) || decide (y.b = 0)) && (decide (1 ≤ l.length) || decide (y.a = 0))) = (!p1 && (!p2 || !p3) && (!p4 || !p5)) := by
      have q1 : decide (y.arms.length = 0) = !p1 := by rw [← hp1, ← decide_not]; exact decide_eq_decide.2 (by omega)
      have q2 : decide (2 ≤ l.length) = !p2 := by rw [← hp2, ← decide_not]; exact decide_eq_decide.2 (by omega)
      have q3 : decide (y.b = 0) = !p3 := by rw [← hp3]; by_cases h : y.b = 0 <;> simp [h]
      have q4 : decide (1 ≤ l.length) = !p4 := by rw [← hp4, ← decide_not]; exact decide_eq_decide.2 (by omega)
      have q5 : decide (y.a = 0) = !p5 := by rw [← hp5]; by_cases h : y.a = 0 <;> simp [h]
      rw [q1, q2, q3, q4, q5]
    by_cases h49 : y.op = 49
    · have e49 : (y.op == 49) = true := by simp [h49]
      rw [if_pos h49] at hisS henc
      simp only [e49, wdB, beq_self_eq_true, vdT, oD, pdB, if_true]
      cases ok with
      | true =>
        simp only [cdT]
        rw [laP (hle2 _ _ b0) ⟨by decide, by simp [inC]⟩, oD]
        show DFn Try.prog E w0 x f_ops_arms [x6, inD y] S2 _
        refine (ops_arms_ok g2 ho h49 (by rw [List.length_cons]; omega)).use ?_
        rintro v S3 ⟨t3, bs3, rfl, g3, hb3⟩
        simp only [exD, List.getElem?_cons_zero, List.getElem?_cons_succ, oD]
        refine enc_end g3 hSB (by rw [hisS, Bool.true_and]; rfl) fun h => ?_
        simp only [Bool.and_eq_true, decide_eq_true_eq] at h
        rw [hb3 h.1.1, henc]
      | false =>
        have hn := nope (ok' := false) (by rw [hisS, Bool.false_and]) (fun h => by cases h)
        simp only [cdF, ofP, oD, Nat.zero_add, ll3, armD_len, biGt, lnL, rowsF_length, ← hl, biLt, hp1, hp2, hp4]
        cases p1 <;> cases p2 <;> cases p3 <;> cases p4 <;> cases p5 <;> simp [ll1, ll2, hp3, hp5] <;> exact hn
    · have e49 : (y.op == 49) = false := by simp [h49]
      rw [if_neg h49] at hisS henc
      rw [List.append_nil] at henc
      rw [key] at hisS
      simp only [e49, wdB, vdF, oD, pdB, Bool.false_eq_true, if_false, cdF, show ((false == true) = false) from rfl]
      simp only [ofP, oD, Nat.zero_add, ll3, armD_len, biGt, lnL, rowsF_length, ← hl, biLt, hp1, hp2, hp4]
      cases p1 <;> cases p2 <;> cases p3 <;> cases p4 <;> cases p5 <;> simp [ll1, ll2, hp3, hp5] <;> exact nope (by rw [hisS]; simp) (fun _ => henc.symm)
theorem ops_Size_ok (ho : y.Ok) : Pure Try.prog E w0 f_ops_Size [inD y] (.int .i64 ((encS y).length : Int)) := fun x S => by
  refine V_ops_Size_ok ?_
  unfold V_ops_Size
  rw [inD, clA, oD]
  intro k0 a0 n0
  rw [laP (DSt.set_same _ _ _) ⟨by decide, by simp [inC]⟩, oD]
  refine (ops_Encode_ok ho).use ?_
  simp only [exD, List.getElem?_cons_zero, List.getElem?_cons_succ, oD, bD_len]
  exact FinD.drop n0 FinD.pure
end
end Go.Proofs.Ytchnpgddpaonhaa.d
end

section
open Go.Proofs Go Go.Am Go.Op
namespace Go.Proofs.Ytchnpgddpaonhaa.d
set_option linter.unusedVariables false
set_option linter.unusedSimpArgs false
set_option maxRecDepth 100000
@[simp] theorem idx0 (row : List D) (rows : List (List D)) (sz : Nat) : idxSl sz (.lst (row :: rows) sz) (.int .i64 0) = some (.elt row 0) := idxL (i := 0) rfl
@[simp] theorem idx1 (a row : List D) (rows : List (List D)) (sz : Nat) : idxSl sz (.lst (a :: row :: rows) sz) (.int .i64 1) = some (.elt row 0) := idxL (i := 1) rfl
theorem beqD (a b : Int) : (a == b) = decide (a = b) := by by_cases h : a = b <;> simp [h]
end Go.Proofs.Ytchnpgddpaonhaa.d
end

section
namespace Go.Am
set_option linter.unusedVariables false
set_option linter.unusedSimpArgs false
def WkR : List (List D) → List (List D) → Prop
  | [], [] => True
  | r :: rs, q :: qs => (WkL r q ∧ r.length = q.length) ∧ WkR rs qs
  | _, _ => False
theorem WkR.length : ∀ {rs qs : List (List D)}, WkR rs qs → rs.length = qs.length
  | [], [], _ => rfl
  | r :: rs, q :: qs, h => by rw [List.length_cons, List.length_cons, WkR.length h.2]
  | [], _ :: _, h => h.elim
  | _ :: _, [], h => h.elim
theorem WkR.row : ∀ {rs qs : List (List D)} {sz : Nat}, WkR rs qs → (∀ r ∈ rs, r.length = sz) → ∀ q ∈ qs, q.length = sz
  | [], [], sz, _, _ => fun q hq => by cases hq
  | r :: rs, q :: qs, sz, h, hr => fun y hy => by
    rcases List.mem_cons.1 hy with e | hy
    · subst e; rw [← h.1.2]; exact hr r List.mem_cons_self
    · exact WkR.row h.2 (fun r hr' => hr r (List.mem_cons_of_mem _ hr')) y hy
  | [], _ :: _, _, h, _ => h.elim
  | _ :: _, [], _, h, _ => h.elim
theorem WkR.ok {E : Env} {R : Fz} : ∀ {rs qs : List (List D)} {vs : List AV}, WkR rs qs → RpLL E R rs vs → RpLL E R qs vs
  | [], [], vs, _, h => h
  | r :: rs, q :: qs, vs, w, h => by
    simp only [RpLL] at h ⊢
    obtain ⟨a, b, e, h1, h2⟩ := h
    exact ⟨a, b, e, w.1.1.ok h1, WkR.ok w.2 h2⟩
  | [], _ :: _, _, w, _ => w.elim
  | _ :: _, [], _, w, _ => w.elim
theorem Wk.lst {rs qs : List (List D)} (w : WkR rs qs) (sz : Nat) : Wk (.lst rs sz) (.lst qs sz) := fun E R v h => by
  simp only [Rp] at h ⊢
  rcases h with ⟨rfl, rfl⟩ | ⟨o, j, cap, ex, z, e1, e2, e3, e4, e5⟩
  · cases qs with
    | nil => exact .inl ⟨rfl, rfl⟩
    | cons => exact w.elim
  · refine .inr ⟨o, j, cap, ex, z, by rw [← w.length]; exact e1, e2, by rw [← w.length]; exact e3, w.row e4, ?_⟩
    rcases e5 with rfl | ⟨all, f1, f2, f3⟩
    · cases qs with
      | nil => exact .inl rfl
      | cons => exact w.elim
    · exact .inr ⟨all, f1, by rw [← w.length]; exact w.ok f2, by rw [← w.length]; exact f3⟩
theorem Wk.trans {a b c : D} (h : Wk a b) (h' : Wk b c) : Wk a c := fun E R v x => h' E R v (h E R v x)
theorem WkR.map {α : Type} {f g : α → List D} (h : ∀ a, WkL (f a) (g a) ∧ (f a).length = (g a).length) : ∀ (l : List α), WkR (l.map f) (l.map g)
  | [] => trivial
  | a :: l => ⟨h a, WkR.map h l⟩
/-- A list that is read: with more behind it, or not. -/
inductive Lst (rows : List (List D)) (sz : Nat) : D → Prop where
  | lst : Lst rows sz (.lst rows sz)
  | ext (more : List (List D)) : Lst rows sz (.ext rows more sz)
section
variable {rows : List (List D)} {sz : Nat} {d : D}
theorem Lst.len (h : Lst rows sz d) : lenSl d = some (.int .i64 rows.length) := by cases h <;> rfl
theorem Lst.at (h : Lst rows sz d) {i : Nat} {row : List D} (hr : rows[i]? = some row) : idxSl sz d (.int .i64 (i : Int)) = some (.elt row 0) := by
  cases h
  · exact idxL hr
  · exact idxE hr
theorem Lst.rowsS (h : Lst rows sz d) (S : DSt) : Am.rowsS S sz d = some rows := by
  cases h <;> simp [Am.rowsS, rowsOf]
theorem Lst.wk (h : Lst rows sz d) : Wk d (.lst rows sz) := by
  cases h
  · exact Wk.refl _
  · exact Wk.ext _ _ _
theorem Lst.cells (h : Lst rows sz d) : cellsD d = some [d] := by cases h <;> rfl
end
theorem Grw.upd {S0 S : DSt} {t : D} {rows : List (List D)} {sz k : Nat} {o o' : DObj} (h : Grw S0 t rows sz S) (hk : S0 k = some o') : Grw (S0.set k o) t rows sz (S.set k o) := by
  rcases h with ⟨rfl, rfl, rfl⟩ | ⟨l, acs, h, rfl, rfl⟩
  · exact .inl ⟨rfl, rfl, rfl⟩
  · have hne : l ≠ k := fun e => by rw [e, hk] at h; cases h
    refine .inr ⟨l, acs, ?_, rfl, DSt.set_comm _ hne _ _⟩
    rw [DSt.set_ne _ _ _ hne]; exact h
/-- What grows no more. -/
theorem Grw.last {S0 S : DSt} {t : D} {rows : List (List D)} {sz bytes : Nat} (h : Grw S0 t rows sz S) {v : D} {news : List (List D)} (hv : rowsS S sz v = some news) (hn : news ≠ []) (hb : 0 < bytes ∧ (2 * (rows.length + news.length) + 768) * bytes ≤ 2 ^ 47) {K : D → DSt → Prop}
    (hK : K (.lst (rows ++ news) sz) S0) : appendD S sz bytes t v K := by
  simp only [appendD, hv]
  rcases h with ⟨rfl, rfl, rfl⟩ | ⟨k, acs, h, rfl, rfl⟩
  · simp only [growD]
    rw [if_neg hn]
    refine ⟨⟨hb.1, by simpa using hb.2⟩, .inl ?_⟩
    rw [List.take_of_length_le (Nat.le_refl _)]
    simpa using hK
  · simp only [growD]
    rw [if_neg hn, DSt.set_same]
    simp only
    rw [if_pos ⟨by trivial, by trivial, by omega⟩]
    refine ⟨hb, .inl ?_⟩
    rw [DSt.erase_set _ _ _ h, List.take_of_length_le (by simp)]
    simpa using hK
end Go.Am
end

section
open Go.Proofs Go Go.Am
namespace Go.Proofs.Ytchnpgddpaonhaa.d
set_option linter.unusedVariables false
set_option maxRecDepth 100000
/- trammel/trammelkit.SameInts -/
def lo_kit_SameInts : List (Nat × List Nat) := [(8, [0, 1, 5])]
def cu_kit_SameInts : List (Nat × List Nat) := []
noncomputable def L_kit_SameInts_0 : Code := (codeAt [1, 1, 0, 1, 0, 0] (Try.f55.body.getD .skip))
def K_kit_SameInts_0 (E : Env) (w0 : World) (x : Bool) (Q : D → DSt → Prop) : AExit → List D → DSt → Prop :=
  (blockD 0 (seqD Try.prog E w0 x lo_kit_SameInts cu_kit_SameInts (codeAt [1, 1, 1] (Try.f55.body.getD .skip)) (retD Try.prog Try.f55 Q)))
def B_kit_SameInts_0 (E : Env) (w0 : World) (x : Bool) (N0 : D → D → D → DSt → Prop) (Q : D → DSt → Prop) (x0 x1 x5 : D) (S : DSt) : Prop :=
  optW (lenSl x0) fun v3 =>
  optW (binI .lss x5 v3) fun v4 =>
  condD v4
  (optW (idxSl 1 x0 x5) fun v5 =>
  optW (loadSc S v5) fun v6 => (True) ∧
  optW (idxSl 1 x1 x5) fun v7 =>
  optW (loadSc S v7) fun v8 => (True) ∧
  optW (binI .neq v6 v8) fun v9 =>
  condD v9
  (Q (.bool false) S)
  (optW (binI .add x5 (.int .i64 1)) fun v10 =>
  N0 x0 x1 v10 S))
  (Q (.bool true) S)
theorem B_kit_SameInts_0_ok {E : Env} {w0 : World} {x : Bool} {N0 : D → D → D → DSt → Prop} {Q : D → DSt → Prop} {x0 x1 x5 : D} {S : DSt} (h : B_kit_SameInts_0 E w0 x N0 Q x0 x1 x5 S) :
    CodeD Try.prog E w0 x L_kit_SameInts_0 (mkRow 26 [0, 1, 5] [x0, x1, x5]) S (loopKD (fun T S => N0 (T.getD 0 undefD) (T.getD 1 undefD) (T.getD 5 undefD) S) (K_kit_SameInts_0 E w0 x Q)) := codeD_of_vc lo_kit_SameInts cu_kit_SameInts mixed (by kernel_rfl) h
theorem loop_kit_SameInts_0 {E : Env} {w0 : World} {x : Bool} {Q : D → DSt → Prop} (I : Nat → D → D → D → DSt → Prop)
    (step : ∀ n x0 x1 x5 S, I n x0 x1 x5 S → B_kit_SameInts_0 E w0 x (fun x0 x1 x5 S => ∃ m, m < n ∧ I m x0 x1 x5 S) Q x0 x1 x5 S)
    {n : Nat} {x0 x1 x5 : D} {S : DSt} (h : I n x0 x1 x5 S) : CodeD Try.prog E w0 x (.loop L_kit_SameInts_0) (mkRow 26 [0, 1, 5] [x0, x1, x5]) S (K_kit_SameInts_0 E w0 x Q) :=
  codeD_loop (k := 26) (n := n) (I := fun n T S => I n (T.getD 0 undefD) (T.getD 1 undefD) (T.getD 5 undefD) S) (fun n T S hl hI => codeD_row [0, 1, 5] hl (CodeD.mono (B_kit_SameInts_0_ok (step n _ _ _ S hI)) fun ex T' S' _ hq => by cases ex <;> exact hq)) (mkRow_length ..) (Eq.mp (by kernel_rfl) h)
def V_kit_SameInts (E : Env) (w0 : World) (x : Bool) (Q : D → DSt → Prop) (a0 a1 : D) (S : DSt) : Prop :=
  optW (lenSl a0) fun v0 =>
  optW (lenSl a1) fun v1 =>
  optW (binI .neq v0 v1) fun v2 =>
  condD v2
  (Q (.bool false) S)
  (CodeD Try.prog E w0 x (.loop L_kit_SameInts_0) (mkRow 26 [0, 1, 5] [a0, a1, (.int .i64 0)]) S (K_kit_SameInts_0 E w0 x Q))
theorem V_kit_SameInts_ok {E : Env} {w0 : World} {x : Bool} {Q : D → DSt → Prop} {a0 a1 : D} {S : DSt} (h : V_kit_SameInts E w0 x (FinD E Q) a0 a1 S) : DFn Try.prog E w0 x f_kit_SameInts [a0, a1] S Q :=
  fnD_of_vc lo_kit_SameInts cu_kit_SameInts (fn := Try.f55) (c := Try.f55.body.getD .skip) mixed Try.func55 (by kernel_rfl) (by kernel_rfl) h

/- trammel/trammelkit.LentInts -/
def lo_kit_SameFields : List (Nat × List Nat) := [(8, [0, 1, 5])]
def cu_kit_SameFields : List (Nat × List Nat) := []
noncomputable def L_kit_SameFields_0 : Code := (codeAt [1, 1, 0, 1, 0, 0] (Try.f54.body.getD .skip))
def K_kit_SameFields_0 (E : Env) (w0 : World) (x : Bool) (Q : D → DSt → Prop) : AExit → List D → DSt → Prop :=
  (blockD 0 (seqD Try.prog E w0 x lo_kit_SameFields cu_kit_SameFields (codeAt [1, 1, 1] (Try.f54.body.getD .skip)) (retD Try.prog Try.f54 Q)))
def B_kit_SameFields_0 (E : Env) (w0 : World) (x : Bool) (N0 : D → D → D → DSt → Prop) (Q : D → DSt → Prop) (x0 x1 x5 : D) (S : DSt) : Prop :=
  optW (lenSl x0) fun v3 =>
  optW (binI .lss x5 v3) fun v4 =>
  condD v4
  (optW (idxSl 2 x0 x5) fun v5 =>
  optW (loadAg S 2 v5) fun v6 => (True) ∧
  optW (idxSl 2 x1 x5) fun v7 =>
  optW (loadAg S 2 v7) fun v8 => (True) ∧
  optW (eqOp .neq (eqAg Try.prog t_api_Field v6 v8)) fun v9 =>
  condD v9
  (Q (.bool false) S)
  (optW (binI .add x5 (.int .i64 1)) fun v10 =>
  N0 x0 x1 v10 S))
  (Q (.bool true) S)
theorem B_kit_SameFields_0_ok {E : Env} {w0 : World} {x : Bool} {N0 : D → D → D → DSt → Prop} {Q : D → DSt → Prop} {x0 x1 x5 : D} {S : DSt} (h : B_kit_SameFields_0 E w0 x N0 Q x0 x1 x5 S) :
    CodeD Try.prog E w0 x L_kit_SameFields_0 (mkRow 26 [0, 1, 5] [x0, x1, x5]) S (loopKD (fun T S => N0 (T.getD 0 undefD) (T.getD 1 undefD) (T.getD 5 undefD) S) (K_kit_SameFields_0 E w0 x Q)) := codeD_of_vc lo_kit_SameFields cu_kit_SameFields mixed (by kernel_rfl) h
theorem loop_kit_SameFields_0 {E : Env} {w0 : World} {x : Bool} {Q : D → DSt → Prop} (I : Nat → D → D → D → DSt → Prop)
    (step : ∀ n x0 x1 x5 S, I n x0 x1 x5 S → B_kit_SameFields_0 E w0 x (fun x0 x1 x5 S => ∃ m, m < n ∧ I m x0 x1 x5 S) Q x0 x1 x5 S)
    {n : Nat} {x0 x1 x5 : D} {S : DSt} (h : I n x0 x1 x5 S) : CodeD Try.prog E w0 x (.loop L_kit_SameFields_0) (mkRow 26 [0, 1, 5] [x0, x1, x5]) S (K_kit_SameFields_0 E w0 x Q) :=
  codeD_loop (k := 26) (n := n) (I := fun n T S => I n (T.getD 0 undefD) (T.getD 1 undefD) (T.getD 5 undefD) S) (fun n T S hl hI => codeD_row [0, 1, 5] hl (CodeD.mono (B_kit_SameFields_0_ok (step n _ _ _ S hI)) fun ex T' S' _ hq => by cases ex <;> exact hq)) (mkRow_length ..) (Eq.mp (by kernel_rfl) h)
def V_kit_SameFields (E : Env) (w0 : World) (x : Bool) (Q : D → DSt → Prop) (a0 a1 : D) (S : DSt) : Prop :=
  optW (lenSl a0) fun v0 =>
  optW (lenSl a1) fun v1 =>
  optW (binI .neq v0 v1) fun v2 =>
  condD v2
  (Q (.bool false) S)
  (CodeD Try.prog E w0 x (.loop L_kit_SameFields_0) (mkRow 26 [0, 1, 5] [a0, a1, (.int .i64 0)]) S (K_kit_SameFields_0 E w0 x Q))
theorem V_kit_SameFields_ok {E : Env} {w0 : World} {x : Bool} {Q : D → DSt → Prop} {a0 a1 : D} {S : DSt} (h : V_kit_SameFields E w0 x (FinD E Q) a0 a1 S) : DFn Try.prog E w0 x f_kit_SameFields [a0, a1] S Q :=
  fnD_of_vc lo_kit_SameFields cu_kit_SameFields (fn := Try.f54) (c := Try.f54.body.getD .skip) mixed Try.func54 (by kernel_rfl) (by kernel_rfl) h

/- trammel/trammelkit.SameType -/
def lo_kit_SameType : List (Nat × List Nat) := []
def cu_kit_SameType : List (Nat × List Nat) := []
def V_kit_SameType (E : Env) (w0 : World) (x : Bool) (Q : D → DSt → Prop) (a0 a1 : D) (S : DSt) : Prop :=
  optW (cellsD a0) fun cs => allocD S cs fun v0 S1 =>
  optW (cellsD a1) fun cs => allocD S1 cs fun v2 S3 =>
  optW (offD 0 v0) fun v4 =>
  optW (loadSc S3 v4) fun v5 =>
  optW (offD 0 v2) fun v6 =>
  optW (loadSc S3 v6) fun v7 =>
  optW (binI .eql v5 v7) fun v8 =>
  optW (valGD (wantsD v8 true) (offD 1 v0)) fun v9 =>
  optW (valGD (wantsD v8 true) (loadSc S3 v9)) fun v10 =>
  optW (valGD (wantsD v8 true) (offD 1 v2)) fun v11 =>
  optW (valGD (wantsD v8 true) (loadSc S3 v11)) fun v12 =>
  optW (valGD (wantsD v8 true) (binS .eql v10 v12)) fun v13 =>
  optW (pickD v8 v13 (.bool false)) fun v14 =>
  optW (valGD (wantsD v14 true) (offD 3 v0)) fun v15 =>
  optW (valGD (wantsD v14 true) (loadSc S3 v15)) fun v16 =>
  optW (valGD (wantsD v14 true) (offD 3 v2)) fun v17 =>
  optW (valGD (wantsD v14 true) (loadSc S3 v17)) fun v18 =>
  optW (valGD (wantsD v14 true) (binI .eql v16 v18)) fun v19 =>
  optW (pickD v14 v19 (.bool false)) fun v20 =>
  optW (valGD (wantsD v20 true) (offD 4 v0)) fun v21 =>
  optW (valGD (wantsD v20 true) (loadSc S3 v21)) fun v22 =>
  optW (valGD (wantsD v20 true) (offD 4 v2)) fun v23 =>
  optW (valGD (wantsD v20 true) (loadSc S3 v23)) fun v24 =>
  optW (valGD (wantsD v20 true) (binI .eql v22 v24)) fun v25 =>
  optW (pickD v20 v25 (.bool false)) fun v26 =>
  optW (valGD (wantsD v26 true) (offD 2 v0)) fun v27 =>
  optW (valGD (wantsD v26 true) (loadSc S3 v27)) fun v28 =>
  optW (valGD (wantsD v26 true) (offD 2 v2)) fun v29 =>
  optW (valGD (wantsD v26 true) (loadSc S3 v29)) fun v30 =>
  guardD (wantsD v26 true) (fun K => DFn Try.prog E w0 x f_kit_SameFields [v28, v30] S3 K) S3 fun v31 S32 =>
  optW (pickD v26 v31 (.bool false)) fun v33 =>
  Q v33 S32
theorem V_kit_SameType_ok {E : Env} {w0 : World} {x : Bool} {Q : D → DSt → Prop} {a0 a1 : D} {S : DSt} (h : V_kit_SameType E w0 x (FinD E Q) a0 a1 S) : DFn Try.prog E w0 x f_kit_SameType [a0, a1] S Q :=
  fnD_of_vc lo_kit_SameType cu_kit_SameType (fn := Try.f27) (c := Try.f27.body.getD .skip) mixed Try.func27 (by kernel_rfl) (by kernel_rfl) h

/- trammel/trammelkit.SameRoutine -/
def lo_kit_SameRoutine : List (Nat × List Nat) := []
def cu_kit_SameRoutine : List (Nat × List Nat) := []
def V_kit_SameRoutine (E : Env) (w0 : World) (x : Bool) (Q : D → DSt → Prop) (a0 a1 : D) (S : DSt) : Prop :=
  optW (cellsD a0) fun cs => allocD S cs fun v0 S1 =>
  optW (cellsD a1) fun cs => allocD S1 cs fun v2 S3 =>
  optW (offD 0 v0) fun v4 =>
  optW (loadSc S3 v4) fun v5 =>
  optW (offD 0 v2) fun v6 =>
  optW (loadSc S3 v6) fun v7 =>
  optW (binS .eql v5 v7) fun v8 =>
  optW (valGD (wantsD v8 true) (offD 3 v0)) fun v9 =>
  optW (valGD (wantsD v8 true) (loadSc S3 v9)) fun v10 =>
  optW (valGD (wantsD v8 true) (offD 3 v2)) fun v11 =>
  optW (valGD (wantsD v8 true) (loadSc S3 v11)) fun v12 =>
  optW (valGD (wantsD v8 true) (binI .eql v10 v12)) fun v13 =>
  optW (pickD v8 v13 (.bool false)) fun v14 =>
  optW (valGD (wantsD v14 true) (offD 4 v0)) fun v15 =>
  optW (valGD (wantsD v14 true) (loadSc S3 v15)) fun v16 =>
  optW (valGD (wantsD v14 true) (offD 4 v2)) fun v17 =>
  optW (valGD (wantsD v14 true) (loadSc S3 v17)) fun v18 =>
  optW (valGD (wantsD v14 true) (binI .eql v16 v18)) fun v19 =>
  optW (pickD v14 v19 (.bool false)) fun v20 =>
  optW (valGD (wantsD v20 true) (offD 1 v0)) fun v21 =>
  optW (valGD (wantsD v20 true) (loadSc S3 v21)) fun v22 =>
  optW (valGD (wantsD v20 true) (offD 1 v2)) fun v23 =>
  optW (valGD (wantsD v20 true) (loadSc S3 v23)) fun v24 =>
  guardD (wantsD v20 true) (fun K => DFn Try.prog E w0 x f_kit_SameInts [v22, v24] S3 K) S3 fun v25 S26 =>
  optW (pickD v20 v25 (.bool false)) fun v27 =>
  optW (valGD (wantsD v27 true) (offD 2 v0)) fun v28 =>
  optW (valGD (wantsD v27 true) (loadSc S26 v28)) fun v29 =>
  optW (valGD (wantsD v27 true) (offD 2 v2)) fun v30 =>
  optW (valGD (wantsD v27 true) (loadSc S26 v30)) fun v31 =>
  guardD (wantsD v27 true) (fun K => DFn Try.prog E w0 x f_kit_SameInts [v29, v31] S26 K) S26 fun v32 S33 =>
  optW (pickD v27 v32 (.bool false)) fun v34 =>
  optW (valGD (wantsD v34 true) (offD 5 v0)) fun v35 =>
  optW (valGD (wantsD v34 true) (loadSc S33 v35)) fun v36 =>
  optW (valGD (wantsD v34 true) (convBS S33 v36)) fun v37 =>
  optW (valGD (wantsD v34 true) (offD 5 v2)) fun v38 =>
  optW (valGD (wantsD v34 true) (loadSc S33 v38)) fun v39 =>
  optW (valGD (wantsD v34 true) (convBS S33 v39)) fun v40 =>
  optW (valGD (wantsD v34 true) (binS .eql v37 v40)) fun v41 =>
  optW (pickD v34 v41 (.bool false)) fun v42 =>
  Q v42 S33
theorem V_kit_SameRoutine_ok {E : Env} {w0 : World} {x : Bool} {Q : D → DSt → Prop} {a0 a1 : D} {S : DSt} (h : V_kit_SameRoutine E w0 x (FinD E Q) a0 a1 S) : DFn Try.prog E w0 x f_kit_SameRoutine [a0, a1] S Q :=
  fnD_of_vc lo_kit_SameRoutine cu_kit_SameRoutine (fn := Try.f28) (c := Try.f28.body.getD .skip) mixed Try.func28 (by kernel_rfl) (by kernel_rfl) h

/- trammel/trammelkit.SameModule -/
def lo_kit_SameModule : List (Nat × List Nat) := [(8, [2, 3, 5]), (18, [2, 3, 6]), (28, [2, 3, 7])]
def cu_kit_SameModule : List (Nat × List Nat) := []
noncomputable def L_kit_SameModule_2 : Code := (codeAt [1, 1, 1, 1, 0, 1, 0, 0] (Try.f12.body.getD .skip))
def K_kit_SameModule_2 (E : Env) (w0 : World) (x : Bool) (Q : D → DSt → Prop) : AExit → List D → DSt → Prop :=
  (blockD 4 (seqD Try.prog E w0 x lo_kit_SameModule cu_kit_SameModule (codeAt [1, 1, 1, 1, 1] (Try.f12.body.getD .skip)) (retD Try.prog Try.f12 Q)))
def B_kit_SameModule_2 (E : Env) (w0 : World) (x : Bool) (N2 : D → D → D → DSt → Prop) (Q : D → DSt → Prop) (x2 x3 x7 : D) (S : DSt) : Prop :=
  optW (offD 2 x2) fun v57 =>
  optW (loadSc S v57) fun v58 =>
  optW (lenSl v58) fun v59 =>
  optW (binI .lss x7 v59) fun v60 =>
  condD v60
  (optW (offD 2 x2) fun v61 =>
  optW (loadSc S v61) fun v62 => (True) ∧
  optW (idxSl 6 v62 x7) fun v63 =>
  optW (loadAg S 6 v63) fun v64 => (True) ∧
  optW (offD 2 x3) fun v65 =>
  optW (loadSc S v65) fun v66 => (True) ∧
  optW (idxSl 6 v66 x7) fun v67 =>
  optW (loadAg S 6 v67) fun v68 => (True) ∧
  DF E (FnX Try.prog E w0) f_kit_SameRoutine [v64, v68] S fun v69 S70 => (True) ∧
  optW (unD .not v69) fun v71 =>
  condD v71
  (Q (.bool false) S70)
  (optW (binI .add x7 (.int .i64 1)) fun v72 =>
  N2 x2 x3 v72 S70))
  (Q (.bool true) S)
theorem B_kit_SameModule_2_ok {E : Env} {w0 : World} {x : Bool} {N2 : D → D → D → DSt → Prop} {Q : D → DSt → Prop} {x2 x3 x7 : D} {S : DSt} (h : B_kit_SameModule_2 E w0 x N2 Q x2 x3 x7 S) :
    CodeD Try.prog E w0 x L_kit_SameModule_2 (mkRow 89 [2, 3, 7] [x2, x3, x7]) S (loopKD (fun T S => N2 (T.getD 2 undefD) (T.getD 3 undefD) (T.getD 7 undefD) S) (K_kit_SameModule_2 E w0 x Q)) := codeD_of_vc lo_kit_SameModule cu_kit_SameModule mixed (by kernel_rfl) h
theorem loop_kit_SameModule_2 {E : Env} {w0 : World} {x : Bool} {Q : D → DSt → Prop} (I : Nat → D → D → D → DSt → Prop)
    (step : ∀ n x2 x3 x7 S, I n x2 x3 x7 S → B_kit_SameModule_2 E w0 x (fun x2 x3 x7 S => ∃ m, m < n ∧ I m x2 x3 x7 S) Q x2 x3 x7 S)
    {n : Nat} {x2 x3 x7 : D} {S : DSt} (h : I n x2 x3 x7 S) : CodeD Try.prog E w0 x (.loop L_kit_SameModule_2) (mkRow 89 [2, 3, 7] [x2, x3, x7]) S (K_kit_SameModule_2 E w0 x Q) :=
  codeD_loop (k := 89) (n := n) (I := fun n T S => I n (T.getD 2 undefD) (T.getD 3 undefD) (T.getD 7 undefD) S) (fun n T S hl hI => codeD_row [2, 3, 7] hl (CodeD.mono (B_kit_SameModule_2_ok (step n _ _ _ S hI)) fun ex T' S' _ hq => by cases ex <;> exact hq)) (mkRow_length ..) (Eq.mp (by kernel_rfl) h)
noncomputable def L_kit_SameModule_1 : Code := (codeAt [1, 1, 1, 0, 1, 0, 0] (Try.f12.body.getD .skip))
def K_kit_SameModule_1 (E : Env) (w0 : World) (x : Bool) (Q : D → DSt → Prop) : AExit → List D → DSt → Prop :=
  (blockD 2 (seqD Try.prog E w0 x lo_kit_SameModule cu_kit_SameModule (codeAt [1, 1, 1, 1] (Try.f12.body.getD .skip)) (retD Try.prog Try.f12 Q)))
def B_kit_SameModule_1 (E : Env) (w0 : World) (x : Bool) (N1 : D → D → D → DSt → Prop) (Q : D → DSt → Prop) (x2 x3 x6 : D) (S : DSt) : Prop :=
  optW (offD 1 x2) fun v43 =>
  optW (loadSc S v43) fun v44 =>
  optW (lenSl v44) fun v45 =>
  optW (binI .lss x6 v45) fun v46 =>
  condD v46
  (optW (offD 1 x2) fun v47 =>
  optW (loadSc S v47) fun v48 => (True) ∧
  optW (idxSl 1 v48 x6) fun v49 =>
  optW (loadSc S v49) fun v50 => (True) ∧
  optW (offD 1 x3) fun v51 =>
  optW (loadSc S v51) fun v52 => (True) ∧
  optW (idxSl 1 v52 x6) fun v53 =>
  optW (loadSc S v53) fun v54 => (True) ∧
  optW (binS .neq v50 v54) fun v55 =>
  condD v55
  (Q (.bool false) S)
  (optW (binI .add x6 (.int .i64 1)) fun v56 =>
  N1 x2 x3 v56 S))
  (CodeD Try.prog E w0 x (.loop L_kit_SameModule_2) (mkRow 89 [2, 3, 7] [x2, x3, (.int .i64 0)]) S (K_kit_SameModule_2 E w0 x Q))
theorem B_kit_SameModule_1_ok {E : Env} {w0 : World} {x : Bool} {N1 : D → D → D → DSt → Prop} {Q : D → DSt → Prop} {x2 x3 x6 : D} {S : DSt} (h : B_kit_SameModule_1 E w0 x N1 Q x2 x3 x6 S) :
    CodeD Try.prog E w0 x L_kit_SameModule_1 (mkRow 89 [2, 3, 6] [x2, x3, x6]) S (loopKD (fun T S => N1 (T.getD 2 undefD) (T.getD 3 undefD) (T.getD 6 undefD) S) (K_kit_SameModule_1 E w0 x Q)) := codeD_of_vc lo_kit_SameModule cu_kit_SameModule mixed (by kernel_rfl) h
theorem loop_kit_SameModule_1 {E : Env} {w0 : World} {x : Bool} {Q : D → DSt → Prop} (I : Nat → D → D → D → DSt → Prop)
    (step : ∀ n x2 x3 x6 S, I n x2 x3 x6 S → B_kit_SameModule_1 E w0 x (fun x2 x3 x6 S => ∃ m, m < n ∧ I m x2 x3 x6 S) Q x2 x3 x6 S)
    {n : Nat} {x2 x3 x6 : D} {S : DSt} (h : I n x2 x3 x6 S) : CodeD Try.prog E w0 x (.loop L_kit_SameModule_1) (mkRow 89 [2, 3, 6] [x2, x3, x6]) S (K_kit_SameModule_1 E w0 x Q) :=
  codeD_loop (k := 89) (n := n) (I := fun n T S => I n (T.getD 2 undefD) (T.getD 3 undefD) (T.getD 6 undefD) S) (fun n T S hl hI => codeD_row [2, 3, 6] hl (CodeD.mono (B_kit_SameModule_1_ok (step n _ _ _ S hI)) fun ex T' S' _ hq => by cases ex <;> exact hq)) (mkRow_length ..) (Eq.mp (by kernel_rfl) h)
noncomputable def L_kit_SameModule_0 : Code := (codeAt [1, 1, 0, 1, 0, 0] (Try.f12.body.getD .skip))
def K_kit_SameModule_0 (E : Env) (w0 : World) (x : Bool) (Q : D → DSt → Prop) : AExit → List D → DSt → Prop :=
  (blockD 0 (seqD Try.prog E w0 x lo_kit_SameModule cu_kit_SameModule (codeAt [1, 1, 1] (Try.f12.body.getD .skip)) (retD Try.prog Try.f12 Q)))
def B_kit_SameModule_0 (E : Env) (w0 : World) (x : Bool) (N0 : D → D → D → DSt → Prop) (Q : D → DSt → Prop) (x2 x3 x5 : D) (S : DSt) : Prop :=
  optW (offD 0 x2) fun v27 =>
  optW (loadSc S v27) fun v28 =>
  optW (lenSl v28) fun v29 =>
  optW (binI .lss x5 v29) fun v30 =>
  condD v30
  (optW (offD 0 x2) fun v31 =>
  optW (loadSc S v31) fun v32 => (True) ∧
  optW (idxSl 5 v32 x5) fun v33 =>
  optW (loadAg S 5 v33) fun v34 => (True) ∧
  optW (offD 0 x3) fun v35 =>
  optW (loadSc S v35) fun v36 => (True) ∧
  optW (idxSl 5 v36 x5) fun v37 =>
  optW (loadAg S 5 v37) fun v38 => (True) ∧
  DF E (FnX Try.prog E w0) f_kit_SameType [v34, v38] S fun v39 S40 => (True) ∧
  optW (unD .not v39) fun v41 =>
  condD v41
  (Q (.bool false) S40)
  (optW (binI .add x5 (.int .i64 1)) fun v42 =>
  N0 x2 x3 v42 S40))
  (CodeD Try.prog E w0 x (.loop L_kit_SameModule_1) (mkRow 89 [2, 3, 6] [x2, x3, (.int .i64 0)]) S (K_kit_SameModule_1 E w0 x Q))
theorem B_kit_SameModule_0_ok {E : Env} {w0 : World} {x : Bool} {N0 : D → D → D → DSt → Prop} {Q : D → DSt → Prop} {x2 x3 x5 : D} {S : DSt} (h : B_kit_SameModule_0 E w0 x N0 Q x2 x3 x5 S) :
    CodeD Try.prog E w0 x L_kit_SameModule_0 (mkRow 89 [2, 3, 5] [x2, x3, x5]) S (loopKD (fun T S => N0 (T.getD 2 undefD) (T.getD 3 undefD) (T.getD 5 undefD) S) (K_kit_SameModule_0 E w0 x Q)) := codeD_of_vc lo_kit_SameModule cu_kit_SameModule mixed (by kernel_rfl) h
theorem loop_kit_SameModule_0 {E : Env} {w0 : World} {x : Bool} {Q : D → DSt → Prop} (I : Nat → D → D → D → DSt → Prop)
    (step : ∀ n x2 x3 x5 S, I n x2 x3 x5 S → B_kit_SameModule_0 E w0 x (fun x2 x3 x5 S => ∃ m, m < n ∧ I m x2 x3 x5 S) Q x2 x3 x5 S)
    {n : Nat} {x2 x3 x5 : D} {S : DSt} (h : I n x2 x3 x5 S) : CodeD Try.prog E w0 x (.loop L_kit_SameModule_0) (mkRow 89 [2, 3, 5] [x2, x3, x5]) S (K_kit_SameModule_0 E w0 x Q) :=
  codeD_loop (k := 89) (n := n) (I := fun n T S => I n (T.getD 2 undefD) (T.getD 3 undefD) (T.getD 5 undefD) S) (fun n T S hl hI => codeD_row [2, 3, 5] hl (CodeD.mono (B_kit_SameModule_0_ok (step n _ _ _ S hI)) fun ex T' S' _ hq => by cases ex <;> exact hq)) (mkRow_length ..) (Eq.mp (by kernel_rfl) h)
def V_kit_SameModule (E : Env) (w0 : World) (x : Bool) (Q : D → DSt → Prop) (a0 a1 : D) (S : DSt) : Prop :=
  optW (cellsD a0) fun cs => allocD S cs fun v0 S1 =>
  optW (cellsD a1) fun cs => allocD S1 cs fun v2 S3 =>
  optW (offD 0 v0) fun v4 =>
  optW (loadSc S3 v4) fun v5 =>
  optW (lenSl v5) fun v6 =>
  optW (offD 0 v2) fun v7 =>
  optW (loadSc S3 v7) fun v8 =>
  optW (lenSl v8) fun v9 =>
  optW (binI .neq v6 v9) fun v10 =>
  optW (valGD (wantsD v10 false) (offD 1 v0)) fun v11 =>
  optW (valGD (wantsD v10 false) (loadSc S3 v11)) fun v12 =>
  optW (valGD (wantsD v10 false) (lenSl v12)) fun v13 =>
  optW (valGD (wantsD v10 false) (offD 1 v2)) fun v14 =>
  optW (valGD (wantsD v10 false) (loadSc S3 v14)) fun v15 =>
  optW (valGD (wantsD v10 false) (lenSl v15)) fun v16 =>
  optW (valGD (wantsD v10 false) (binI .neq v13 v16)) fun v17 =>
  optW (pickD v10 (.bool true) v17) fun v18 =>
  optW (valGD (wantsD v18 false) (offD 2 v0)) fun v19 =>
  optW (valGD (wantsD v18 false) (loadSc S3 v19)) fun v20 =>
  optW (valGD (wantsD v18 false) (lenSl v20)) fun v21 =>
  optW (valGD (wantsD v18 false) (offD 2 v2)) fun v22 =>
  optW (valGD (wantsD v18 false) (loadSc S3 v22)) fun v23 =>
  optW (valGD (wantsD v18 false) (lenSl v23)) fun v24 =>
  optW (valGD (wantsD v18 false) (binI .neq v21 v24)) fun v25 =>
  optW (pickD v18 (.bool true) v25) fun v26 =>
  condD v26
  (Q (.bool false) S3)
  (CodeD Try.prog E w0 x (.loop L_kit_SameModule_0) (mkRow 89 [2, 3, 5] [v0, v2, (.int .i64 0)]) S3 (K_kit_SameModule_0 E w0 x Q))
theorem V_kit_SameModule_ok {E : Env} {w0 : World} {x : Bool} {Q : D → DSt → Prop} {a0 a1 : D} {S : DSt} (h : V_kit_SameModule E w0 x (FinD E Q) a0 a1 S) : DFn Try.prog E w0 x f_kit_SameModule [a0, a1] S Q :=
  fnD_of_vc lo_kit_SameModule cu_kit_SameModule (fn := Try.f12) (c := Try.f12.body.getD .skip) mixed Try.func12 (by kernel_rfl) (by kernel_rfl) h

/- trammel/trammelkit.LentModule -/
def lo_kit_Bulk : List (Nat × List Nat) := [(6, [1, 2, 5, 6]), (14, [1, 2, 5, 6, 7]), (22, [1, 2, 5, 8]), (30, [1, 2, 5, 9])]
def cu_kit_Bulk : List (Nat × List Nat) := []
noncomputable def L_kit_Bulk_1 : Code := (codeAt [1, 1, 0, 1, 0, 0, 1, 0, 0, 1, 1, 0, 0] (Try.f9.body.getD .skip))
def K_kit_Bulk_1 (E : Env) (w0 : World) (x : Bool) (N0 : D → D → D → D → DSt → Prop) (Q : D → DSt → Prop) : AExit → List D → DSt → Prop :=
  (blockD 2 (blockD 1 (seqD Try.prog E w0 x lo_kit_Bulk cu_kit_Bulk (codeAt [1, 1, 0, 1, 0, 0, 1, 1] (Try.f9.body.getD .skip)) (loopKD (fun T S => N0 (T.getD 1 undefD) (T.getD 2 undefD) (T.getD 5 undefD) (T.getD 6 undefD) S) (blockD 0 (seqD Try.prog E w0 x lo_kit_Bulk cu_kit_Bulk (codeAt [1, 1, 1] (Try.f9.body.getD .skip)) (retD Try.prog Try.f9 Q)))))))
def B_kit_Bulk_1 (E : Env) (w0 : World) (x : Bool) (N0 : D → D → D → D → DSt → Prop) (N1 : D → D → D → D → D → DSt → Prop) (Q : D → DSt → Prop) (x1 x2 x5 x6 x7 : D) (S : DSt) : Prop :=
  optW (offD 0 x2) fun v35 =>
  optW (loadSc S v35) fun v36 =>
  optW (idxSl 5 v36 x6) fun v37 =>
  optW (offD 2 v37) fun v38 =>
  optW (loadSc S v38) fun v39 =>
  optW (lenSl v39) fun v40 =>
  optW (binI .lss x7 v40) fun v41 =>
  optW (valGD (wantsD v41 true) (some x5)) fun v42 =>
  optW (valGD (wantsD v41 true) (some x1)) fun v43 =>
  optW (valGD (wantsD v41 true) (binI .leq v42 v43)) fun v44 =>
  optW (pickD v41 v44 (.bool false)) fun v45 =>
  condD v45
  (optW (offD 0 x2) fun v46 =>
  optW (loadSc S v46) fun v47 =>
  optW (idxSl 5 v47 x6) fun v48 =>
  optW (offD 2 v48) fun v49 =>
  optW (loadSc S v49) fun v50 =>
  optW (idxSl 2 v50 x7) fun v51 =>
  optW (offD 0 v51) fun v52 =>
  optW (loadSc S v52) fun v53 =>
  optW (lenStr v53) fun v54 =>
  optW (binI .add x5 v54) fun v55 =>
  optW (binI .add x7 (.int .i64 1)) fun v56 =>
  N1 x1 x2 v55 x6 v56 S)
  (optW (binI .add x6 (.int .i64 1)) fun v57 =>
  N0 x1 x2 x5 v57 S)
theorem B_kit_Bulk_1_ok {E : Env} {w0 : World} {x : Bool} {N0 : D → D → D → D → DSt → Prop} {N1 : D → D → D → D → D → DSt → Prop} {Q : D → DSt → Prop} {x1 x2 x5 x6 x7 : D} {S : DSt} (h : B_kit_Bulk_1 E w0 x N0 N1 Q x1 x2 x5 x6 x7 S) :
    CodeD Try.prog E w0 x L_kit_Bulk_1 (mkRow 135 [1, 2, 5, 6, 7] [x1, x2, x5, x6, x7]) S (loopKD (fun T S => N1 (T.getD 1 undefD) (T.getD 2 undefD) (T.getD 5 undefD) (T.getD 6 undefD) (T.getD 7 undefD) S) (K_kit_Bulk_1 E w0 x N0 Q)) := codeD_of_vc lo_kit_Bulk cu_kit_Bulk mixed (by kernel_rfl) h
theorem loop_kit_Bulk_1 {E : Env} {w0 : World} {x : Bool} {N0 : D → D → D → D → DSt → Prop} {Q : D → DSt → Prop} (I : Nat → D → D → D → D → D → DSt → Prop)
    (step : ∀ n x1 x2 x5 x6 x7 S, I n x1 x2 x5 x6 x7 S → B_kit_Bulk_1 E w0 x N0 (fun x1 x2 x5 x6 x7 S => ∃ m, m < n ∧ I m x1 x2 x5 x6 x7 S) Q x1 x2 x5 x6 x7 S)
    {n : Nat} {x1 x2 x5 x6 x7 : D} {S : DSt} (h : I n x1 x2 x5 x6 x7 S) : CodeD Try.prog E w0 x (.loop L_kit_Bulk_1) (mkRow 135 [1, 2, 5, 6, 7] [x1, x2, x5, x6, x7]) S (K_kit_Bulk_1 E w0 x N0 Q) :=
  codeD_loop (k := 135) (n := n) (I := fun n T S => I n (T.getD 1 undefD) (T.getD 2 undefD) (T.getD 5 undefD) (T.getD 6 undefD) (T.getD 7 undefD) S) (fun n T S hl hI => codeD_row [1, 2, 5, 6, 7] hl (CodeD.mono (B_kit_Bulk_1_ok (step n _ _ _ _ _ S hI)) fun ex T' S' _ hq => by cases ex <;> exact hq)) (mkRow_length ..) (Eq.mp (by kernel_rfl) h)
noncomputable def L_kit_Bulk_3 : Code := (codeAt [1, 1, 1, 1, 0, 1, 0, 0] (Try.f9.body.getD .skip))
def K_kit_Bulk_3 (E : Env) (w0 : World) (x : Bool) (Q : D → DSt → Prop) : AExit → List D → DSt → Prop :=
  (blockD 6 (seqD Try.prog E w0 x lo_kit_Bulk cu_kit_Bulk (codeAt [1, 1, 1, 1, 1] (Try.f9.body.getD .skip)) (retD Try.prog Try.f9 Q)))
def B_kit_Bulk_3 (E : Env) (w0 : World) (x : Bool) (N3 : D → D → D → D → DSt → Prop) (Q : D → DSt → Prop) (x1 x2 x5 x9 : D) (S : DSt) : Prop :=
  optW (offD 2 x2) fun v73 =>
  optW (loadSc S v73) fun v74 =>
  optW (lenSl v74) fun v75 =>
  optW (binI .lss x9 v75) fun v76 =>
  optW (valGD (wantsD v76 true) (some x5)) fun v77 =>
  optW (valGD (wantsD v76 true) (some x1)) fun v78 =>
  optW (valGD (wantsD v76 true) (binI .leq v77 v78)) fun v79 =>
  optW (pickD v76 v79 (.bool false)) fun v80 =>
  condD v80
  (optW (offD 2 x2) fun v81 =>
  optW (loadSc S v81) fun v82 =>
  optW (idxSl 6 v82 x9) fun v83 =>
  optW (loadAg S 6 v83) fun v84 =>
  allocD S [(.str []), .nilSlc, .nilSlc, (.int .i64 0), (.int .i64 0), .nilSlc] fun v85 S86 =>
  storeD S86 6 v85 v84 fun v87 S88 =>
  optW (offD 0 v85) fun v89 =>
  optW (loadSc S88 v89) fun v90 =>
  optW (lenStr v90) fun v91 =>
  optW (binI .add x5 v91) fun v92 =>
  optW (offD 1 v85) fun v93 =>
  optW (loadSc S88 v93) fun v94 =>
  optW (lenSl v94) fun v95 =>
  optW (binI .add v92 v95) fun v96 =>
  optW (offD 2 v85) fun v97 =>
  optW (loadSc S88 v97) fun v98 =>
  optW (lenSl v98) fun v99 =>
  optW (binI .add v96 v99) fun v100 =>
  optW (offD 5 v85) fun v101 =>
  optW (loadSc S88 v101) fun v102 =>
  optW (lenSl v102) fun v103 =>
  optW (binI .add v100 v103) fun v104 =>
  optW (binI .add x9 (.int .i64 1)) fun v105 =>
  N3 x1 x2 v104 v105 S88)
  (Q x5 S)
theorem B_kit_Bulk_3_ok {E : Env} {w0 : World} {x : Bool} {N3 : D → D → D → D → DSt → Prop} {Q : D → DSt → Prop} {x1 x2 x5 x9 : D} {S : DSt} (h : B_kit_Bulk_3 E w0 x N3 Q x1 x2 x5 x9 S) :
    CodeD Try.prog E w0 x L_kit_Bulk_3 (mkRow 135 [1, 2, 5, 9] [x1, x2, x5, x9]) S (loopKD (fun T S => N3 (T.getD 1 undefD) (T.getD 2 undefD) (T.getD 5 undefD) (T.getD 9 undefD) S) (K_kit_Bulk_3 E w0 x Q)) := codeD_of_vc lo_kit_Bulk cu_kit_Bulk mixed (by kernel_rfl) h
theorem loop_kit_Bulk_3 {E : Env} {w0 : World} {x : Bool} {Q : D → DSt → Prop} (I : Nat → D → D → D → D → DSt → Prop)
    (step : ∀ n x1 x2 x5 x9 S, I n x1 x2 x5 x9 S → B_kit_Bulk_3 E w0 x (fun x1 x2 x5 x9 S => ∃ m, m < n ∧ I m x1 x2 x5 x9 S) Q x1 x2 x5 x9 S)
    {n : Nat} {x1 x2 x5 x9 : D} {S : DSt} (h : I n x1 x2 x5 x9 S) : CodeD Try.prog E w0 x (.loop L_kit_Bulk_3) (mkRow 135 [1, 2, 5, 9] [x1, x2, x5, x9]) S (K_kit_Bulk_3 E w0 x Q) :=
  codeD_loop (k := 135) (n := n) (I := fun n T S => I n (T.getD 1 undefD) (T.getD 2 undefD) (T.getD 5 undefD) (T.getD 9 undefD) S) (fun n T S hl hI => codeD_row [1, 2, 5, 9] hl (CodeD.mono (B_kit_Bulk_3_ok (step n _ _ _ _ S hI)) fun ex T' S' _ hq => by cases ex <;> exact hq)) (mkRow_length ..) (Eq.mp (by kernel_rfl) h)
noncomputable def L_kit_Bulk_2 : Code := (codeAt [1, 1, 1, 0, 1, 0, 0] (Try.f9.body.getD .skip))
def K_kit_Bulk_2 (E : Env) (w0 : World) (x : Bool) (Q : D → DSt → Prop) : AExit → List D → DSt → Prop :=
  (blockD 4 (seqD Try.prog E w0 x lo_kit_Bulk cu_kit_Bulk (codeAt [1, 1, 1, 1] (Try.f9.body.getD .skip)) (retD Try.prog Try.f9 Q)))
def B_kit_Bulk_2 (E : Env) (w0 : World) (x : Bool) (N2 : D → D → D → D → DSt → Prop) (Q : D → DSt → Prop) (x1 x2 x5 x8 : D) (S : DSt) : Prop :=
  optW (offD 1 x2) fun v58 =>
  optW (loadSc S v58) fun v59 =>
  optW (lenSl v59) fun v60 =>
  optW (binI .lss x8 v60) fun v61 =>
  optW (valGD (wantsD v61 true) (some x5)) fun v62 =>
  optW (valGD (wantsD v61 true) (some x1)) fun v63 =>
  optW (valGD (wantsD v61 true) (binI .leq v62 v63)) fun v64 =>
  optW (pickD v61 v64 (.bool false)) fun v65 =>
  condD v65
  (optW (offD 1 x2) fun v66 =>
  optW (loadSc S v66) fun v67 =>
  optW (idxSl 1 v67 x8) fun v68 =>
  optW (loadSc S v68) fun v69 =>
  optW (lenStr v69) fun v70 =>
  optW (binI .add x5 v70) fun v71 =>
  optW (binI .add x8 (.int .i64 1)) fun v72 =>
  N2 x1 x2 v71 v72 S)
  (CodeD Try.prog E w0 x (.loop L_kit_Bulk_3) (mkRow 135 [1, 2, 5, 9] [x1, x2, x5, (.int .i64 0)]) S (K_kit_Bulk_3 E w0 x Q))
theorem B_kit_Bulk_2_ok {E : Env} {w0 : World} {x : Bool} {N2 : D → D → D → D → DSt → Prop} {Q : D → DSt → Prop} {x1 x2 x5 x8 : D} {S : DSt} (h : B_kit_Bulk_2 E w0 x N2 Q x1 x2 x5 x8 S) :
    CodeD Try.prog E w0 x L_kit_Bulk_2 (mkRow 135 [1, 2, 5, 8] [x1, x2, x5, x8]) S (loopKD (fun T S => N2 (T.getD 1 undefD) (T.getD 2 undefD) (T.getD 5 undefD) (T.getD 8 undefD) S) (K_kit_Bulk_2 E w0 x Q)) := codeD_of_vc lo_kit_Bulk cu_kit_Bulk mixed (by kernel_rfl) h
theorem loop_kit_Bulk_2 {E : Env} {w0 : World} {x : Bool} {Q : D → DSt → Prop} (I : Nat → D → D → D → D → DSt → Prop)
    (step : ∀ n x1 x2 x5 x8 S, I n x1 x2 x5 x8 S → B_kit_Bulk_2 E w0 x (fun x1 x2 x5 x8 S => ∃ m, m < n ∧ I m x1 x2 x5 x8 S) Q x1 x2 x5 x8 S)
    {n : Nat} {x1 x2 x5 x8 : D} {S : DSt} (h : I n x1 x2 x5 x8 S) : CodeD Try.prog E w0 x (.loop L_kit_Bulk_2) (mkRow 135 [1, 2, 5, 8] [x1, x2, x5, x8]) S (K_kit_Bulk_2 E w0 x Q) :=
  codeD_loop (k := 135) (n := n) (I := fun n T S => I n (T.getD 1 undefD) (T.getD 2 undefD) (T.getD 5 undefD) (T.getD 8 undefD) S) (fun n T S hl hI => codeD_row [1, 2, 5, 8] hl (CodeD.mono (B_kit_Bulk_2_ok (step n _ _ _ _ S hI)) fun ex T' S' _ hq => by cases ex <;> exact hq)) (mkRow_length ..) (Eq.mp (by kernel_rfl) h)
noncomputable def L_kit_Bulk_0 : Code := (codeAt [1, 1, 0, 1, 0, 0] (Try.f9.body.getD .skip))
def K_kit_Bulk_0 (E : Env) (w0 : World) (x : Bool) (Q : D → DSt → Prop) : AExit → List D → DSt → Prop :=
  (blockD 0 (seqD Try.prog E w0 x lo_kit_Bulk cu_kit_Bulk (codeAt [1, 1, 1] (Try.f9.body.getD .skip)) (retD Try.prog Try.f9 Q)))
def B_kit_Bulk_0 (E : Env) (w0 : World) (x : Bool) (N0 : D → D → D → D → DSt → Prop) (Q : D → DSt → Prop) (x1 x2 x5 x6 : D) (S : DSt) : Prop :=
  optW (offD 0 x2) fun v13 =>
  optW (loadSc S v13) fun v14 =>
  optW (lenSl v14) fun v15 =>
  optW (binI .lss x6 v15) fun v16 =>
  optW (valGD (wantsD v16 true) (some x5)) fun v17 =>
  optW (valGD (wantsD v16 true) (some x1)) fun v18 =>
  optW (valGD (wantsD v16 true) (binI .leq v17 v18)) fun v19 =>
  optW (pickD v16 v19 (.bool false)) fun v20 =>
  condD v20
  (optW (offD 0 x2) fun v21 =>
  optW (loadSc S v21) fun v22 => (True) ∧
  optW (idxSl 5 v22 x6) fun v23 =>
  optW (offD 1 v23) fun v24 =>
  optW (loadSc S v24) fun v25 => (True) ∧
  optW (lenStr v25) fun v26 => (True) ∧
  optW (binI .add x5 v26) fun v27 =>
  optW (offD 0 x2) fun v28 =>
  optW (loadSc S v28) fun v29 => (True) ∧
  optW (idxSl 5 v29 x6) fun v30 =>
  optW (offD 2 v30) fun v31 =>
  optW (loadSc S v31) fun v32 => (True) ∧
  optW (lenSl v32) fun v33 => (True) ∧
  optW (binI .add v27 v33) fun v34 =>
  CodeD Try.prog E w0 x (.loop L_kit_Bulk_1) (mkRow 135 [1, 2, 5, 6, 7] [x1, x2, v34, x6, (.int .i64 0)]) S (K_kit_Bulk_1 E w0 x N0 Q))
  (CodeD Try.prog E w0 x (.loop L_kit_Bulk_2) (mkRow 135 [1, 2, 5, 8] [x1, x2, x5, (.int .i64 0)]) S (K_kit_Bulk_2 E w0 x Q))
theorem B_kit_Bulk_0_ok {E : Env} {w0 : World} {x : Bool} {N0 : D → D → D → D → DSt → Prop} {Q : D → DSt → Prop} {x1 x2 x5 x6 : D} {S : DSt} (h : B_kit_Bulk_0 E w0 x N0 Q x1 x2 x5 x6 S) :
    CodeD Try.prog E w0 x L_kit_Bulk_0 (mkRow 135 [1, 2, 5, 6] [x1, x2, x5, x6]) S (loopKD (fun T S => N0 (T.getD 1 undefD) (T.getD 2 undefD) (T.getD 5 undefD) (T.getD 6 undefD) S) (K_kit_Bulk_0 E w0 x Q)) := codeD_of_vc lo_kit_Bulk cu_kit_Bulk mixed (by kernel_rfl) h
theorem loop_kit_Bulk_0 {E : Env} {w0 : World} {x : Bool} {Q : D → DSt → Prop} (I : Nat → D → D → D → D → DSt → Prop)
    (step : ∀ n x1 x2 x5 x6 S, I n x1 x2 x5 x6 S → B_kit_Bulk_0 E w0 x (fun x1 x2 x5 x6 S => ∃ m, m < n ∧ I m x1 x2 x5 x6 S) Q x1 x2 x5 x6 S)
    {n : Nat} {x1 x2 x5 x6 : D} {S : DSt} (h : I n x1 x2 x5 x6 S) : CodeD Try.prog E w0 x (.loop L_kit_Bulk_0) (mkRow 135 [1, 2, 5, 6] [x1, x2, x5, x6]) S (K_kit_Bulk_0 E w0 x Q) :=
  codeD_loop (k := 135) (n := n) (I := fun n T S => I n (T.getD 1 undefD) (T.getD 2 undefD) (T.getD 5 undefD) (T.getD 6 undefD) S) (fun n T S hl hI => codeD_row [1, 2, 5, 6] hl (CodeD.mono (B_kit_Bulk_0_ok (step n _ _ _ _ S hI)) fun ex T' S' _ hq => by cases ex <;> exact hq)) (mkRow_length ..) (Eq.mp (by kernel_rfl) h)
def V_kit_Bulk (E : Env) (w0 : World) (x : Bool) (Q : D → DSt → Prop) (a0 a1 : D) (S : DSt) : Prop :=
  optW (cellsD a0) fun cs => allocD S cs fun v0 S1 =>
  optW (offD 0 v0) fun v2 =>
  optW (loadSc S1 v2) fun v3 =>
  optW (lenSl v3) fun v4 =>
  optW (offD 1 v0) fun v5 =>
  optW (loadSc S1 v5) fun v6 =>
  optW (lenSl v6) fun v7 =>
  optW (binI .add v4 v7) fun v8 =>
  optW (offD 2 v0) fun v9 =>
  optW (loadSc S1 v9) fun v10 =>
  optW (lenSl v10) fun v11 =>
  optW (binI .add v8 v11) fun v12 =>
  CodeD Try.prog E w0 x (.loop L_kit_Bulk_0) (mkRow 135 [1, 2, 5, 6] [a1, v0, v12, (.int .i64 0)]) S1 (K_kit_Bulk_0 E w0 x Q)
theorem V_kit_Bulk_ok {E : Env} {w0 : World} {x : Bool} {Q : D → DSt → Prop} {a0 a1 : D} {S : DSt} (h : V_kit_Bulk E w0 x (FinD E Q) a0 a1 S) : DFn Try.prog E w0 x f_kit_Bulk [a0, a1] S Q :=
  fnD_of_vc lo_kit_Bulk cu_kit_Bulk (fn := Try.f9) (c := Try.f9.body.getD .skip) mixed Try.func9 (by kernel_rfl) (by kernel_rfl) h
end Go.Proofs.Ytchnpgddpaonhaa.d
end

section
open Go.Proofs Go Go.Am Go.Op
namespace Go.Proofs.Ytchnpgddpaonhaa.d
set_option linter.unusedVariables false
set_option linter.unusedSimpArgs false
set_option maxRecDepth 100000
/-- Numbers. -/
def iC (l : List Int) : List (List D) := ones (l.map (D.int .i64))
def iD (l : List Int) : D := .lst (iC l) 1
@[simp] theorem iC_length (l : List Int) : (iC l).length = l.length := by simp [iC]
theorem iC_at {l : List Int} {i : Nat} {n : Int} (h : l[i]? = some n) : (iC l)[i]? = some [.int .i64 n] := ones_get (by rw [List.getElem?_map, h]; rfl)
theorem iD_at {l : List Int} {i : Nat} {n : Int} (h : l[i]? = some n) : idxSl 1 (iD l) (.int .i64 (i : Int)) = some (.elt [.int .i64 n] 0) := idxL (iC_at h)
@[simp] theorem iD_len (l : List Int) : lenSl (iD l) = some (.int .i64 l.length) := by simp [iD]
@[simp] theorem iD_rows (S : DSt) (l : List Int) : rowsS S 1 (iD l) = some (iC l) := by simp [iD, rowsS, rowsOf]
theorem iC_append (a b : List Int) : iC (a ++ b) = iC a ++ iC b := by simp [iC, ones]
section
variable {E : Env} {w0 : World}
theorem kit_SameInts_ok {a b : List Int} (hl : a.length < 2 ^ 60) (hb : b.length < 2 ^ 60) : Pure Try.prog E w0 f_kit_SameInts [iD a, iD b] (.bool (decide (a = b))) := fun x S => by
  refine V_kit_SameInts_ok ?_
  unfold V_kit_SameInts
  simp only [iD_len, oD, biNe]
  have e : ((a.length : Int) != b.length) = decide (a.length ≠ b.length) := by
    by_cases h : a.length = b.length <;> simp [h, bne]
    intro h'; exact h (by omega)
  rw [e, cdI]
  refine ⟨fun h => ?_, fun h => ?_⟩
  · rw [decide_eq_false (fun e => h (by rw [e]))]
    exact FinD.pure
  have h : a.length = b.length := by omega
  refine loop_kit_SameInts_0 (I := fun n x0 x1 x5 S' => S' = S ∧ x0 = iD a ∧ x1 = iD b ∧ ∃ i : Nat, x5 = .int .i64 (i : Int) ∧ i + n = a.length ∧ a.take i = b.take i) ?_ (n := a.length) ⟨rfl, rfl, rfl, 0, rfl, by omega, rfl⟩
  rintro n _ _ _ _ ⟨rfl, rfl, rfl, i, rfl, hi, ht⟩
  unfold B_kit_SameInts_0
  simp only [iD_len, oD, biLt]
  rw [cdI]
  refine ⟨fun hlt => ?_, fun hge => ?_⟩
  · have hlt : i < a.length := by omega
    have ea : a[i]? = some a[i] := List.getElem?_eq_getElem hlt
    have eb : b[i]? = some b[i] := List.getElem?_eq_getElem (by omega)
    simp only [iD_at ea, iD_at eb, oD, lsE, List.getElem?_cons_zero, biNe]
    refine ⟨by trivial, by trivial, ?_⟩
    have e : (a[i] != b[i]) = decide (a[i] ≠ b[i]) := by by_cases h : a[i] = b[i] <;> simp [h, bne]
    rw [e, cdI]
    refine ⟨fun hne => ?_, fun he => ?_⟩
    · rw [decide_eq_false (fun e => hne (by simp only [e]))]
      exact FinD.pure
    · rw [biAdd, oD, wrap_i64 (by omega) (by omega)]
      refine ⟨n - 1, by omega, by trivial, by trivial, by trivial, i + 1, rfl, by omega, ?_⟩
      rw [List.take_add_one, List.take_add_one, ht, ea, eb, Classical.not_not.1 he]
  · rw [List.take_of_length_le (by omega), List.take_of_length_le (by omega)] at ht
    rw [decide_eq_true ht]
    exact FinD.pure
end
end Go.Proofs.Ytchnpgddpaonhaa.d
end

section
open Go.Proofs Go Go.Am Go.Op
namespace Go.Proofs.Ytchnpgddpaonhaa.d
set_option linter.unusedVariables false
set_option linter.unusedSimpArgs false
set_option maxRecDepth 100000
def strB (bs : List Int) : List UInt8 := bs.map fun b => UInt8.ofNat b.toNat
theorem bytes_of (l : List Int) : (ones (l.map (D.int .u8))).mapM byteD = some (strB l) := by
  induction l with
  | nil => rfl
  | cons b l ih =>
    have : (ones ((b :: l).map (D.int .u8))) = [D.int .u8 b] :: ones (l.map (D.int .u8)) := rfl
    rw [this, List.mapM_cons, ih]
    rfl
theorem convB (S : DSt) (l : List Int) : convBS S (bD l) = some (.str (strB l)) := by
  have : rowsOf S 1 (bD l) = some (ones (l.map (D.int .u8))) := by simp [bD, rowsOf]
  simp only [convBS, this, bytes_of, Option.map_some]
@[simp] theorem armD_rows (S : DSt) (arms : List (Int × Int)) : rowsS S 2 (armD arms) = some (arms.map armR) := by simp [armD, rowsS, rowsOf]
def andO (r k : Option Bool) : Option Bool := match r with
  | some true => k
  | r => r
theorem andO_b (a b : Bool) : andO (some a) (some b) = some (a && b) := by cases a <;> rfl
theorem bneD (a b : Int) : (a != b) = decide (a ≠ b) := by by_cases h : a = b <;> simp [h, bne]
section
variable {E : Env} {w0 : World}
end
end Go.Proofs.Ytchnpgddpaonhaa.d
end
