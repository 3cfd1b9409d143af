/-
  Texts Fa Fb Fc Do Cn Co Fd, as far as they are used.
-/
import Derived.Test.YtcboaonbfgjmgaaRaw
import Derived.Test.YtcboaonbfgjmgaaRax
import Derived.Test.YtcboaonbfgjmgaaRay
section
open Go.Proofs Go Go.Am Go.Op
namespace Go.Proofs.Ytcboaonbfgjmgaa.d
set_option linter.unusedVariables false
set_option linter.unusedSimpArgs false
set_option maxRecDepth 100000
/-- A reader's cells. -/
def rdC (bs : List Int) (s : Nat × Int) : List D := [bD bs, .int .i64 (s.1 : Int), .int .i64 s.2]
theorem pow8 {s : Nat} (h : s < 8) : (2 : Nat) ^ (8 * s) ≤ 2 ^ 56 := Nat.pow_le_pow_right (by decide) (by omega)
section
variable {E : Env} {w0 : World} {x : Bool}
theorem ops_read_ok {bs : List Int} (hb : ∀ b ∈ bs, Byte b) (hl : bs.length < 2 ^ 60) {s : Nat × Int} (hs : s.1 ≤ bs.length) {row : List D} {f : Fld} (hf : FldD row f) (h1 : 1 ≤ f.size) (h8 : f.size ≤ 8) {S : DSt} {k : Nat} {acs : List AV} (hk : S k = some ⟨3, [rdC bs s], acs⟩) :
    DFn Try.prog E w0 x f_ops_reader_read [.ptr k 0, .agg row] S fun v S' => v = .int .i64 (rdS bs f s).1 ∧ ∃ acs', S' = S.set k ⟨3, [rdC bs (rdS bs f s).2], acs'⟩ := by
  obtain ⟨fv, rfl, hm⟩ := hf
  refine V_ops_reader_read_ok ?_
  unfold V_ops_reader_read
  rw [clA, oD]
  intro k0 a0 n0
  have d : k ≠ k0 := DSt.ne_of hk n0
  generalize hS1 : S.set k0 _ = S1
  have bk : S1 k = some ⟨3, [rdC bs s], acs⟩ := by rw [← hS1, DSt.set_ne _ _ _ d]; exact hk
  have b0 : S1 k0 = some ⟨2, [[.int .i64 (f.size : Int), fv]], a0⟩ := by rw [← hS1]; exact DSt.set_same _ _ _
  have drop : ∀ {o : DObj} {Q : D → DSt → Prop} {v : D}, FinD E Q v (S.set k o) → FinD E Q v (S1.set k o) := fun {o Q v} h => by
    rw [← hS1, DSt.set_comm _ (Ne.symm d)]
    exact FinD.drop (by rw [DSt.set_ne _ _ _ (Ne.symm d)]; exact n0) h
  have l2 : loadSc S1 (.ptr k 2) = some (.int .i64 s.2) := ldP bk
  have l1 : loadSc S1 (.ptr k 1) = some (.int .i64 (s.1 : Int)) := ldP bk
  have l0 : loadSc S1 (.ptr k 0) = some (bD bs) := ldP bk
  have m0 : loadSc S1 (.ptr k0 0) = some (.int .i64 (f.size : Int)) := ldP b0
  have m1 : loadSc S1 (.ptr k0 1) = some fv := ldP b0
  simp only [ndP, ofP, oD, Nat.zero_add, l2, l1, l0, m0, biNe]
  rw [bneD, cdI]
  refine ⟨fun he => ?_, fun he => ?_⟩
  · rw [rdS_err he, ← hS1]
    exact FinD.drop n0 (FinD.here ⟨rfl, acs, (DSt.set_self hk).symm⟩)
  have he : s.2 = 0 := Classical.not_not.1 he
  refine ⟨by trivial, by trivial, by trivial, (wire_Wide_ok hb hl hs h1 h8).useX ⟨by trivial, ?_⟩⟩
  have hset : ∀ n m : Int, setManyD (rdC bs (s.1, n)) 2 [.int .i64 m] = rdC bs (s.1, m) := fun _ _ => rfl
  have hset1 : ∀ m : Nat, setManyD (rdC bs s) 1 [.int .i64 (m : Int)] = rdC bs (m, s.2) := fun _ => rfl
  by_cases hsh : bs.length < s.1 + f.size
  · rw [if_pos hsh]
    have e : rdS bs f s = (0, s.1, 10) := by unfold rdS; rw [if_neg (by simp [he]), if_pos hsh]
    simp only [exD, List.getElem?_cons_zero, List.getElem?_cons_succ, oD, biNe]
    rw [show ((10 : Int) != 0) = true from rfl, cdT]
    refine stP bk (clI _ _) ⟨rfl, by decide, by simp [rdC]⟩ fun acs' => drop (FinD.here ?_)
    rw [e]
    exact ⟨rfl, acs', rfl⟩
  rw [if_neg hsh]
  simp only [exD, List.getElem?_cons_zero, List.getElem?_cons_succ, oD, biNe, cvI]
  rw [show ((0 : Int) != 0) = false from rfl, cdF]
  obtain ⟨u, hu⟩ : ∃ u, u = leN ((bs.drop s.1).take f.size) := ⟨_, rfl⟩
  have hur : rdS bs f s = match rdN f u with | some n => (n, s.1 + f.size, 0) | none => (0, s.1, 120) := by
    unfold rdS; rw [if_neg (by simp [he]), if_neg hsh, ← hu]
    cases rdN f u <;> rfl
  have hult : u < 2 ^ (8 * f.size) := by
    rw [hu]
    have hbs : ∀ b ∈ (bs.drop s.1).take f.size, Byte b := fun b hb' => hb b (List.mem_of_mem_drop (List.mem_of_mem_take hb'))
    have := leN_lt hbs
    rwa [show ((bs.drop s.1).take f.size).length = f.size by rw [List.length_take, List.length_drop]; omega] at this
  rw [← hu]
  obtain ⟨n, hn⟩ : ∃ n, n = IntKind.i64.wrap (u : Int) := ⟨_, rfl⟩
  have hn64 : I64 n := by rw [hn]; exact i64_of_wrap _
  rw [← hn, m1, oD]
  -- the end
  have tail : ∀ n' : Int, I64 n' → n' = (if f.may n = false ∧ f.size < 8 then n - 2 ^ (8 * f.size) else n) → C_ops_reader_read_20 E w0 x (FinD E fun v S' => v = .int .i64 (rdS bs f s).1 ∧ ∃ acs', S' = S.set k ⟨3, [rdC bs (rdS bs f s).2], acs'⟩) (.ptr k 0) (.ptr k0 0) (.int .i64 ((s.1 + f.size : Nat) : Int)) (.int .i64 n') S1 := fun n' hn' he' => by
    refine C_ops_reader_read_20_ok ?_
    unfold P_ops_reader_read_20
    simp only [ofP, oD, Nat.zero_add, m1]
    refine may_call hm hn' ?_
    rw [unN, oD]
    have hrd : rdN f u = if f.may n' = true then some n' else none := by
      unfold rdN; simp only; rw [← hn, ← he']
    have hmm : decide (f.lo ≤ n' ∧ n' ≤ f.hi) = f.may n' := rfl
    rw [hmm, cdB]
    refine ⟨fun hf => ?_, fun hf => ?_⟩
    · have hf : f.may n' = false := by simpa using hf
      rw [hf, if_neg (by decide)] at hrd
      rw [hrd] at hur
      simp only [ndP, ofP, oD, Nat.zero_add]
      refine stP bk (clI _ _) ⟨rfl, by decide, by simp [rdC]⟩ fun acs' => drop (FinD.here ?_)
      rw [hur]
      exact ⟨rfl, acs', rfl⟩
    · have hf : f.may n' = true := by simpa using hf
      rw [if_pos hf] at hrd
      rw [hrd] at hur
      simp only [ndP, ofP, oD, Nat.zero_add]
      refine stP bk (clI _ _) ⟨rfl, by decide, by simp [rdC]⟩ fun acs' => drop (FinD.here ?_)
      rw [hur, hset1, he]
      exact ⟨rfl, acs', rfl⟩
  refine may_call hm hn64 ?_
  have hmm : decide (f.lo ≤ n ∧ n ≤ f.hi) = f.may n := rfl
  rw [hmm, unN, oD]
  have e8 : decide ((f.size : Int) < 8) = decide (f.size < 8) := decide_eq_decide.2 (by omega)
  have key : (optW (binI .mul (.int .i64 8) (.int .i64 (f.size : Int))) fun v49 => optW (binI .shl (.int .i64 1) v49) fun v50 => optW (binI .sub (.int .i64 n) v50) fun v51 => C_ops_reader_read_20 E w0 x (FinD E fun v S' => v = .int .i64 (rdS bs f s).1 ∧ ∃ acs', S' = S.set k ⟨3, [rdC bs (rdS bs f s).2], acs'⟩) (.ptr k 0) (.ptr k0 0) (.int .i64 ((s.1 + f.size : Nat) : Int)) v51 S1) ∨ ¬ (f.may n = false ∧ f.size < 8) := by
    by_cases hc : f.may n = false ∧ f.size < 8
    · left
      have h56 := pow8 hc.2
      have hnu : n = u := by rw [hn]; exact wrap_i64 (by omega) (by omega)
      rw [biMul, oD, wrap_i64 (by omega) (by omega), biShl _ _ _ _ (by omega), oD]
      have e1 : min (8 * (f.size : Int)).toNat IntKind.i64.bits = 8 * f.size := by
        have : IntKind.i64.bits = 64 := rfl
        omega
      have e2 : (1 : Int) * 2 ^ (8 * f.size) = ((2 ^ (8 * f.size) : Nat) : Int) := by rw [Int.one_mul]; exact_mod_cast rfl
      rw [e1, e2, wrap_i64 (by omega) (by omega), biSub, oD, wrap_i64 (by omega) (by omega)]
      refine tail _ ⟨by omega, by omega⟩ ?_
      rw [if_pos hc]
      congr 1
    · exact .inr hc
  cases hmn : f.may n with
  | true =>
    simp only [Bool.not_true, wdB, vdF, oD, pdB, Bool.false_eq_true, if_false, cdF, show ((false == true) = false) from rfl]
    exact tail n hn64 (by rw [if_neg (by rw [hmn]; simp)])
  | false =>
    simp only [Bool.not_false, wdB, vdT, oD, pdB, if_true, show ((true == true) = true) from rfl, m0, biLt, e8]
    rw [cdI]
    refine ⟨fun h => ?_, fun h => ?_⟩
    · exact key.resolve_right fun hc => hc ⟨hmn, h⟩
    · exact tail n hn64 (by rw [if_neg (fun hc => h hc.2)])
end
end Go.Proofs.Ytcboaonbfgjmgaa.d
end

section
open Go.Proofs Go Go.Am Go.Op
namespace Go.Proofs.Ytcboaonbfgjmgaa.d
set_option linter.unusedVariables false
set_option linter.unusedSimpArgs false
set_option maxRecDepth 100000
def zC : List D := [.int .u8 0, .int .i64 0, .int .i64 0, .nilSlc]
def datC (op a b : Int) (t : D) : List D := [.int .u8 op, .int .i64 a, .int .i64 b, t]
/-- What Decode answers, its arms being 't'. -/
def datT (r : Dat × (Nat × Int)) (t : D) : D := .tup [.agg (datC r.1.1 r.1.2.1 r.1.2.2.1 t), .int .i64 (r.2.1 : Int), .int .i64 r.2.2]
section
variable {E : Env} {w0 : World}
/-- The end of Decode. -/
theorem dec_end {x : Bool} {Q : D → DSt → Prop} {S : DSt} {k4 k7 k10 : Nat} {c4 : List D} {op a b : Int} {t : D} {bs : List Int} {s : Nat × Int} (h4 : Cel S k4 4 c4) (h7 : Cel S k7 4 (datC op a b t)) (h10 : Cel S k10 3 (rdC bs s)) (l4 : c4.length = 4) (ht : cellsD t = some [t])
    (hQ : ∀ S', (∀ j, j ≠ k4 → S' j = S j) → FinD E Q (if s.2 = 0 then .tup [.agg (datC op a b t), .int .i64 (s.1 : Int), .int .i64 0] else .tup [.agg zC, .int .i64 0, .int .i64 s.2]) S') : C_ops_Decode_46 E w0 x (FinD E Q) (.ptr k4 0) (.ptr k7 0) (.ptr k10 0) S := by
  refine C_ops_Decode_46_ok ?_
  unfold P_ops_Decode_46
  have e410 : k10 ≠ k4 := h10.ne h4 (by decide)
  have ld2 : (rdC bs s)[2]? = some (.int .i64 s.2) := rfl
  have ld1 : (rdC bs s)[1]? = some (.int .i64 (s.1 : Int)) := rfl
  simp only [ndP, ofP, oD, Nat.zero_add, h10.ld, ld2, ld1, biNe, fiN, agS]
  rw [bneD, cdI]
  refine ⟨fun he => ⟨by trivial, ?_⟩, fun he => ?_⟩
  · refine h4.st (clA _) ⟨rfl, by decide, by omega⟩ fun a4 => ⟨⟨?_, by trivial⟩, ?_⟩
    · rw [fwP, DSt.set_ne _ _ _ e410]
    have hs : setManyD c4 0 [D.int .u8 0, .int .i64 0, .int .i64 0, .nilSlc] = zC := by
      match c4, l4 with
      | [_, _, _, _], _ => rfl
    rw [hs, (Cel.new).all (n := 4) (by decide) rfl, oD]
    have := hQ (S.set k4 ⟨4, [zC], a4⟩) (fun j hj => DSt.set_ne _ _ _ hj)
    rw [if_neg he] at this
    exact this
  · rw [h7.all (n := 4) (by decide) rfl, oD]
    refine ⟨by trivial, by trivial, ?_⟩
    refine h4.st (ds := datC op a b t) (clA _) ⟨rfl, by decide, by omega⟩ fun a4 => ⟨⟨?_, by trivial⟩, ?_⟩
    · rw [fwP, DSt.set_ne _ _ _ e410]
    have hs : setManyD c4 0 (datC op a b t) = datC op a b t := by
      match c4, l4 with
      | [_, _, _, _], _ => rfl
    rw [hs, (Cel.new).all (n := 4) (by decide) rfl, oD]
    have := hQ (S.set k4 ⟨4, [datC op a b t], a4⟩) (fun j hj => DSt.set_ne _ _ _ hj)
    rw [if_pos (Classical.not_not.1 he)] at this
    exact this
/-- Where a reading stands: its objects. -/
structure DecSt (S : DSt) (k4 k7 k10 : Nat) (c7 : List D) (bs : List Int) (s : Nat × Int) (S' : DSt) : Prop where
  le : S.le S'
  n4 : S k4 = none
  n7 : S k7 = none
  n10 : S k10 = none
  d47 : k4 ≠ k7
  h4 : Cel S' k4 4 zC
  h7 : Cel S' k7 4 c7
  h10 : Cel S' k10 3 (rdC bs s)
section
variable {S S' : DSt} {k4 k7 k10 : Nat} {c7 : List D} {bs : List Int} {s : Nat × Int}
theorem DecSt.d410 (h : DecSt S k4 k7 k10 c7 bs s S') : k4 ≠ k10 := h.h4.ne h.h10 (by decide)
theorem DecSt.d710 (h : DecSt S k4 k7 k10 c7 bs s S') : k7 ≠ k10 := h.h7.ne h.h10 (by decide)
theorem DecSt.set7 (h : DecSt S k4 k7 k10 c7 bs s S') {c : List D} {a : List AV} : DecSt S k4 k7 k10 c bs s (S'.set k7 ⟨4, [c], a⟩) :=
  ⟨DSt.le_set h.le h.n7, h.n4, h.n7, h.n10, h.d47, h.h4.set_ne h.d47, Cel.new, h.h10.set_ne (Ne.symm h.d710)⟩
theorem DecSt.set10 (h : DecSt S k4 k7 k10 c7 bs s S') {s' : Nat × Int} {a : List AV} : DecSt S k4 k7 k10 c7 bs s' (S'.set k10 ⟨3, [rdC bs s'], a⟩) :=
  ⟨DSt.le_set h.le h.n10, h.n4, h.n7, h.n10, h.d47, h.h4.set_ne h.d410, h.h7.set_ne h.d710, Cel.new⟩
theorem DecSt.new (h : DecSt S k4 k7 k10 c7 bs s S') {k : Nat} {o : DObj} (hk : S' k = none) : DecSt S k4 k7 k10 c7 bs s (S'.set k o) :=
  ⟨DSt.le_set h.le (DSt.none_of h.le hk), h.n4, h.n7, h.n10, h.d47, h.h4.set hk, h.h7.set hk, h.h10.set hk⟩
theorem DecSt.of (h : DecSt S k4 k7 k10 c7 bs s S') {S2 : DSt} (hl : S.le S2) (e : ∀ j ∈ [k4, k7, k10], S2 j = S' j) : DecSt S k4 k7 k10 c7 bs s S2 :=
  ⟨hl, h.n4, h.n7, h.n10, h.d47, h.h4.of (e _ (by simp)), h.h7.of (e _ (by simp)), h.h10.of (e _ (by simp))⟩
end
theorem FldD.len {row : List D} {f : Fld} (h : FldD row f) : row.length = 2 := by obtain ⟨fv, rfl, _⟩ := h; rfl
theorem fld_box {row : List D} {f : Fld} (h : FldD row f) : setManyD [D.int .i64 0, .nilFn] 0 row = row := by obtain ⟨fv, rfl, _⟩ := h; rfl
/-- A field, read while a reading goes on. -/
theorem dec_read {x : Bool} {S S' : DSt} {k4 k7 k10 : Nat} {c7 : List D} {bs : List Int} {s : Nat × Int} (h : DecSt S k4 k7 k10 c7 bs s S') (hb : ∀ b ∈ bs, Byte b) (hl : bs.length < 2 ^ 60) (hs : s.1 ≤ bs.length) {row : List D} {f : Fld} (hf : FldD row f) (h1 : 1 ≤ f.size) (h8 : f.size ≤ 8) :
    DFn Try.prog E w0 x f_ops_reader_read [.ptr k10 0, .agg row] S' fun v S2 => v = .int .i64 (rdS bs f s).1 ∧ DecSt S k4 k7 k10 c7 bs (rdS bs f s).2 S2 ∧ ∀ j, j ≠ k10 → S2 j = S' j := by
  obtain ⟨a, e⟩ := h.h10
  refine (ops_read_ok hb hl hs hf h1 h8 e).use fun v S2 ⟨e1, a', e2⟩ => ⟨e1, ?_, ?_⟩
  · rw [e2]; exact h.set10
  · rw [e2]; exact fun j hj => DSt.set_ne _ _ _ hj
theorem rdS_may (bs : List Int) (f : Fld) (s : Nat × Int) : (rdS bs f s).1 = 0 ∨ f.may (rdS bs f s).1 = true := by
  unfold rdS
  split
  · exact .inl rfl
  split
  · exact .inl rfl
  · split
    · rename_i m hm
      unfold rdN at hm
      simp only [Option.ite_none_right_eq_some, Option.some.injEq] at hm
      obtain ⟨h1, h2⟩ := hm
      right; rw [← h2]; exact h1
    · exact .inl rfl
/-- A switch's arms, and where else it leads. -/
theorem dec_sw {x : Bool} {Q : D → DSt → Prop} {S : DSt} {k4 k7 k10 k13 k14 : Nat} {op a : Int} {bs : List Int} {s : Nat × Int} {S' : DSt} (hb : ∀ b ∈ bs, Byte b) (hl : bs.length < 2 ^ 30) (h : DecSt S k4 k7 k10 (datC op a 0 .nilSlc) bs s S') (hs : s.1 ≤ bs.length)
    (h13 : Cel S' k13 2 [.int .i64 4, betD 0 4294967295]) (h14 : Cel S' k14 2 [.int .i64 8, fitD (IntKind.u8.wrap a)]) (n13 : S k13 = none) (n14 : S k14 = none) (d7 : k7 ≠ k13 ∧ k7 ≠ k14)
    (hQ : ∀ t S', Grw S t ((decSw bs op a s).1.2.2.2.map armR) 2 S' → FinD E Q (if (decSw bs op a s).2.2 = 0 then .tup [.agg (datC op a (decSw bs op a s).1.2.2.1 t), .int .i64 ((decSw bs op a s).2.1 : Int), .int .i64 0] else .tup [.agg zC, .int .i64 0, .int .i64 (decSw bs op a s).2.2]) S') :
    C_ops_Decode_34 E w0 x (FinD E Q) (.ptr k4 0) (.ptr k7 0) (.ptr k10 0) (.ptr k13 0) (.ptr k14 0) S' := by
  refine C_ops_Decode_34_ok ?_
  unfold P_ops_Decode_34
  refine ops_between_ok.use ?_
  rw [fill2 (clBet _ _), oD]
  have hl60 : bs.length < 2 ^ 60 := by omega
  refine (dec_read h hb hl60 hs (row := [.int .i64 2, betD 0 65535]) (f := fIx) ⟨_, rfl, MayD.bet _ _⟩ (by decide) (by decide)).use ?_
  rintro v S2 ⟨rfl, h2, ke⟩
  have hs2 := rdS_le (f := fIx) hs
  have hn0 : 0 ≤ (rdS bs fIx s).1 ∧ (rdS bs fIx s).1 ≤ 65535 := by
    rcases rdS_may bs fIx s with h | h
    · omega
    · exact of_decide_eq_true h
  have e13 : k13 ≠ k10 := h13.ne h.h10 (by decide)
  have e14 : k14 ≠ k10 := h14.ne h.h10 (by decide)
  have h13 := h13.of (ke _ e13)
  have h14 := h14.of (ke _ e14)
  obtain ⟨N, hN⟩ : ∃ N : Nat, (rdS bs fIx s).1 = (N : Int) := ⟨(rdS bs fIx s).1.toNat, by omega⟩
  have hdec : decSw bs op a s = ((op, a, (rdS bs fLeap (rdArms bs (IntKind.u8.wrap a) N (rdS bs fIx s).2 []).2).1, (rdArms bs (IntKind.u8.wrap a) N (rdS bs fIx s).2 []).1), (rdS bs fLeap (rdArms bs (IntKind.u8.wrap a) N (rdS bs fIx s).2 []).2).2) := by
    unfold decSw; rw [hN]; rfl
  rw [hN]
  refine loop_ops_Decode_1 (I := fun n x4 x7 x10 x13 x14 x15 T => x4 = .ptr k4 0 ∧ x7 = .ptr k7 0 ∧ x10 = .ptr k10 0 ∧ x13 = .ptr k13 0 ∧ x14 = .ptr k14 0 ∧ x15 = .int .i64 (n : Int) ∧ n ≤ N ∧ ∃ (s' : Nat × Int) (acc : List (Int × Int)) (t : D), DecSt S k4 k7 k10 (datC op a 0 t) bs s' T ∧ s'.1 ≤ bs.length ∧
      Cel T k13 2 [.int .i64 4, betD 0 4294967295] ∧ Cel T k14 2 [.int .i64 8, fitD (IntKind.u8.wrap a)] ∧ GrA S [k4, k7, k10, k13, k14] t (acc.map armR) 2 T ∧ acc.length + n = N ∧ rdArms bs (IntKind.u8.wrap a) n s' acc = rdArms bs (IntKind.u8.wrap a) N (rdS bs fIx s).2 []) ?_ (n := N)
    ⟨rfl, rfl, rfl, rfl, rfl, rfl, Nat.le_refl _, _, [], .nilSlc, h2, hs2, h13, h14, GrA.nil, by simp, rfl⟩
  rintro n _ _ _ _ _ _ T ⟨rfl, rfl, rfl, rfl, rfl, rfl, hnN, s', acc, t, hd, hs', g13, g14, hg, hacc, hrd⟩
  unfold B_ops_Decode_1
  have ld2 : loadSc T (.ptr k10 2) = some (.int .i64 s'.2) := hd.h10.ld 2
  have fin : (n = 0 ∨ s'.2 ≠ 0) → (optW (loadAg T 2 (.ptr k13 0)) fun v107 => DFn Try.prog E w0 x f_ops_reader_read [.ptr k10 0, v107] T fun v108 S109 => optW (offD 2 (.ptr k7 0)) fun v110 => storeD S109 1 v110 v108 fun v111 S112 => C_ops_Decode_46 E w0 x (FinD E Q) (.ptr k4 0) (.ptr k7 0) (.ptr k10 0) S112) := fun hend => by
    have hrd' : rdArms bs (IntKind.u8.wrap a) N (rdS bs fIx s).2 [] = (acc, s') := by
      rw [← hrd]
      rcases hend with rfl | h
      · rfl
      · exact rdArms_err h
    rw [hrd'] at hdec
    rw [g13.all (n := 2) (by decide) rfl, oD]
    refine (dec_read hd hb hl60 hs' (row := [.int .i64 4, betD 0 4294967295]) (f := fLeap) ⟨_, rfl, MayD.bet _ _⟩ (by decide) (by decide)).use ?_
    rintro v T2 ⟨rfl, hd2, ke2⟩
    rw [ofP, oD]
    refine hd2.h7.st (clI _ _) ⟨rfl, by decide, by simp [datC]⟩ fun a7 => ?_
    have hd3 := hd2.set7 (c := datC op a (rdS bs fLeap s').1 t) (a := a7)
    have hg3 : GrA S [k4, k7, k10, k13, k14] t (acc.map armR) 2 (T2.set k7 ⟨4, [datC op a (rdS bs fLeap s').1 t], a7⟩) := (hg.of fun k o hk e => by rw [ke2 k (fun e => hk (by simp [e]))]; exact e).set (.inl (by simp))
    refine dec_end hd3.h4 hd3.h7 hd3.h10 rfl hg.cells fun S'' hS'' => ?_
    have hg4 : GrA S [k4, k7, k10, k13, k14] t (acc.map armR) 2 S'' := hg3.of fun k o hk e => by rw [hS'' k (fun e => hk (by simp [e]))]; exact e
    have hle : S.le S'' := fun j o e => by rw [hS'' j (fun e' => by rw [e', hd.n4] at e; cases e)]; exact hd3.le _ _ e
    obtain ⟨S3, l3, g3⟩ := hg4.grw hle
    refine FinD.less l3 ?_
    have := hQ t S3 (by rw [hdec]; exact g3)
    rw [hdec] at this
    exact this
  simp only [biGt, oD, ndP, ofP, Nat.zero_add, ld2, biEq]
  by_cases h0 : n = 0
  · subst h0
    simp only [Int.natCast_zero, gt_iff_lt, Int.lt_irrefl, decide_false, wdB, vdF, oD, pdB, Bool.false_eq_true, if_false, cdF, show ((false == true) = false) from rfl]
    exact fin (.inl rfl)
  have hpos : decide ((n : Int) > 0) = true := decide_eq_true (by omega)
  simp only [hpos, wdB, vdT, oD, pdB, if_true, show ((true == true) = true) from rfl, ndP, ofP, Nat.zero_add, ld2, biEq]
  rw [cdB]
  refine ⟨fun h0' => ?_, fun h0' => ?_⟩
  · have hs0 : s'.2 = 0 := by simpa using h0'
    rw [g14.all (n := 2) (by decide) rfl, oD]
    refine (dec_read hd hb hl60 hs' (row := [.int .i64 8, fitD (IntKind.u8.wrap a)]) (f := vF (IntKind.u8.wrap a)) ⟨_, rfl, MayD.fit _⟩ (by show 1 ≤ 8; decide) (by show 8 ≤ 8; decide)).use ?_
    rintro v T2 ⟨rfl, hd2, ke2⟩
    have hs2' := rdS_le (f := vF (IntKind.u8.wrap a)) hs'
    have f13 := g13.of (ke2 _ e13)
    have f14 := g14.of (ke2 _ e14)
    have ld3 : loadSc T2 (.ptr k7 3) = some t := hd2.h7.ld 3
    rw [ld3, oD]
    refine ⟨by trivial, ?_⟩
    rw [f13.all (n := 2) (by decide) rfl, oD]
    refine ⟨by trivial, DFn.toX (dec_read hd2 hb hl60 hs2' (row := [.int .i64 4, betD 0 4294967295]) (f := fLeap) ⟨_, rfl, MayD.bet _ _⟩ (by decide) (by decide)) ?_⟩
    rintro v T3 ⟨rfl, hd3, ke3⟩
    have k7e : T3 k7 = T2 k7 := ke3 _ hd.d710
    rw [fwP]
    refine ⟨⟨k7e, by trivial⟩, ?_⟩
    have hfa : aggD (fillD [D.int .i64 0, .int .i64 0] [(0, 1, .int .i64 (rdS bs (vF (IntKind.u8.wrap a)) s').1), (1, 1, .int .i64 (rdS bs fLeap (rdS bs (vF (IntKind.u8.wrap a)) s').2).1)]) = some (.agg (armR ((rdS bs (vF (IntKind.u8.wrap a)) s').1, (rdS bs fLeap (rdS bs (vF (IntKind.u8.wrap a)) s').2).1))) := rfl
    rw [hfa, oD]
    refine lit_lst (rows := [armR _]) rfl ?_
    refine ⟨⟨k7e, by trivial⟩, ?_⟩
    have hg2 : GrA S [k4, k7, k10, k13, k14] t (acc.map armR) 2 T2 := hg.of fun k o hk e => by rw [ke2 k (fun e => hk (by simp [e]))]; exact e
    have hg3 : GrA S [k4, k7, k10, k13, k14] t (acc.map armR) 2 T3 := hg2.of fun k o hk e => by rw [ke3 k (fun e => hk (by simp [e]))]; exact e
    have q13 := f13.of (ke3 _ e13)
    have q14 := f14.of (ke3 _ e14)
    refine hg3.push hd3.le (fun j hj => ?_) (news := [armR ((rdS bs (vF (IntKind.u8.wrap a)) s').1, (rdS bs fLeap (rdS bs (vF (IntKind.u8.wrap a)) s').2).1)]) (by simp [rowsS, rowsOf]) (by simp) (by simp; omega) fun t' T4 hle4 he4 hg4 => ?_
    · simp only [List.mem_cons, List.not_mem_nil, or_false] at hj
      rcases hj with rfl | rfl | rfl | rfl | rfl
      · exact hd3.h4.there
      · exact hd3.h7.there
      · exact hd3.h10.there
      · exact q13.there
      · exact q14.there
    refine ⟨by trivial, ?_⟩
    have hd4 : DecSt S k4 k7 k10 (datC op a 0 t) bs _ T4 := hd3.of hle4 fun j hj => he4 j (by simp only [List.mem_cons, List.not_mem_nil, or_false] at hj ⊢; rcases hj with rfl | rfl | rfl <;> simp)
    refine hd4.h7.st (hg4.cells) ⟨rfl, by decide, by simp [datC]⟩ fun a7 => ?_
    refine ⟨by trivial, ?_⟩
    rw [biSub, oD, wrap_i64 (by omega) (by omega)]
    obtain ⟨m, rfl⟩ : ∃ m, n = m + 1 := ⟨n - 1, by omega⟩
    rw [rdArms, if_neg (by simpa using hs0)] at hrd
    refine ⟨m, by omega, by trivial, by trivial, by trivial, by trivial, by trivial, by congr 1; omega, by omega, _, acc ++ [_], t', hd4.set7 (c := datC op a 0 t'), rdS_le hs2', ?_, ?_, ?_, by simp; omega, hrd⟩
    · exact (q13.of (he4 _ (by simp))).set_ne (Ne.symm d7.1)
    · exact (q14.of (he4 _ (by simp))).set_ne (Ne.symm d7.2)
    · rw [List.map_append]
      exact hg4.set (.inl (by simp))
  · exact fin (.inr (by simpa using h0'))
end
end Go.Proofs.Ytcboaonbfgjmgaa.d
end

section
open Go.Proofs Go Go.Am Go.Op
namespace Go.Proofs.Ytcboaonbfgjmgaa.d
set_option linter.unusedVariables false
set_option linter.unusedSimpArgs false
set_option maxRecDepth 100000
section
variable {E : Env} {w0 : World}
theorem two1 (T : DSt) {k l : Nat} (h : k ≠ l) (z z' A B : DObj) : (((T.set k z).set l z').set k A).set l B = (T.set k A).set l B := by
  rw [DSt.set_in _ h, DSt.set_set]
theorem two2 (T : DSt) {k l : Nat} (h : k ≠ l) (z z' A B : DObj) : (((T.set k z).set l z').set l B).set k A = (T.set k A).set l B := by
  rw [DSt.set_set, DSt.set_in _ h]
theorem foldF_drop {bs : List Int} {j : Nat} {a b : Int} {s : Nat × Int} {f : Fld} {l : List Fld} (h : l[j]? = some f) : foldF bs j a b s (l.drop j) = foldF bs (j + 1) (if j = 0 then (rdS bs f s).1 else a) (if j = 0 then b else (rdS bs f s).1) (rdS bs f s).2 (l.drop (j + 1)) := by
  obtain ⟨hj, rfl⟩ := List.getElem?_eq_some_iff.1 h
  rw [List.drop_eq_getElem_cons hj, foldF]
theorem ops_Decode_own {bs : List Int} (hb : ∀ b ∈ bs, Byte b) (hl : bs.length < 2 ^ 30) {n : Int} {S : DSt} : DFn Try.prog E w0 false f_ops_Decode [bD bs, .int .i64 n] S fun v S' => ∃ t, v = datT (decT bs n) t ∧ Grw S t ((decT bs n).1.2.2.2.map armR) 2 S' := by
  refine V_ops_Decode_ok ?_
  unfold V_ops_Decode
  intro k4 a4 n4
  have h4 : Cel (S.set k4 ⟨4, [zC], a4⟩) k4 4 zC := Cel.new
  change optW _ _
  have le4 : S.le (S.set k4 ⟨4, [zC], a4⟩) := DSt.le_new n4
  by_cases hn : n < 0 ∨ n ≥ bs.length
  · have e : decT bs n = (zDat, (0, 2)) := by unfold decT; rw [if_pos hn]
    have fin : (optW (aggD (fillD [(D.int .u8 0), (.int .i64 0), (.int .i64 0), .nilSlc] [])) fun v8 => storeD (S.set k4 ⟨4, [zC], a4⟩) 4 (.ptr k4 0) v8 fun v9 S10 => optW (loadAg S10 4 (.ptr k4 0)) fun v11 => FinD E (fun v S' => ∃ t, v = datT (decT bs n) t ∧ Grw S t ((decT bs n).1.2.2.2.map armR) 2 S') (.tup [v11, (.int .i64 0), (.int .i64 2)]) S10) := by
      rw [fiN, agS, oD]
      refine h4.st (clA _) ⟨rfl, by decide, by decide⟩ fun a => ?_
      rw [(Cel.new).all (n := 4) (by decide) rfl, oD, DSt.set_set]
      refine FinD.drop n4 (FinD.here ⟨.nilSlc, ?_, ?_⟩)
      · rw [e]; rfl
      · rw [e]; exact Grw.nil _ _
    rw [biLt, oD]
    by_cases h1 : n < 0
    · rw [decide_eq_true h1]
      simp only [wdB, vdF, oD, pdB, if_true, cdT, show ((true == false) = false) from rfl]
      exact fin
    · have h2 : decide (n ≥ (bs.length : Int)) = true := decide_eq_true (hn.resolve_left h1)
      rw [decide_eq_false h1]
      simp only [wdB, vdT, oD, pdB, Bool.false_eq_true, if_false, bD_len, biGe, h2, cdT, show ((false == false) = true) from rfl]
      exact fin
  have hn0 : ¬ n < 0 := fun h => hn (.inl h)
  have hn1 : ¬ n ≥ (bs.length : Int) := fun h => hn (.inr h)
  obtain ⟨p, rfl⟩ : ∃ p : Nat, n = (p : Int) := ⟨n.toNat, by omega⟩
  have hp : p < bs.length := by omega
  have edT : decT bs (p : Int) = decS bs p := by unfold decT; rw [if_neg hn]; rfl
  obtain ⟨op, hop⟩ : ∃ op, op = bs[p] := ⟨_, rfl⟩
  have hj : bs[p]? = some op := by rw [List.getElem?_eq_getElem hp, hop]
  have hbop : Byte op := hb op (by rw [hop]; exact List.getElem_mem _)
  have egd : bs.getD p 0 = op := by rw [List.getD_eq_getElem?_getD, hj]; rfl
  rw [biLt, oD, decide_eq_false hn0]
  simp only [wdB, vdT, oD, pdB, Bool.false_eq_true, if_false, bD_len, biGe, decide_eq_false hn1, cdF, show ((false == false) = true) from rfl]
  rw [bD_at hj, oD, lsE, List.getElem?_cons_zero, oD]
  have hag : aggD (fillD [(D.int .u8 0), (.int .i64 0), (.int .i64 0), .nilSlc] [(0, 1, .int .u8 op)]) = some (.agg (datC op 0 0 .nilSlc)) := rfl
  rw [hag, oD]
  intro k7 a7 n7
  have d47 : k4 ≠ k7 := h4.none n7
  have n7' : S k7 = none := DSt.none_of le4 n7
  have h7z : Cel ((S.set k4 ⟨4, [zC], a4⟩).set k7 ⟨4, [zC], a7⟩) k7 4 zC := Cel.new
  refine h7z.st (ds := datC op 0 0 .nilSlc) (clA _) ⟨rfl, by decide, by decide⟩ fun a7 => ?_
  rw [DSt.set_set, show setManyD zC 0 (datC op 0 0 .nilSlc) = datC op 0 0 .nilSlc from rfl]
  have h7 : Cel ((S.set k4 ⟨4, [zC], a4⟩).set k7 ⟨4, [datC op 0 0 .nilSlc], a7⟩) k7 4 (datC op 0 0 .nilSlc) := Cel.new
  have h4' := h4.set (o := ⟨4, [datC op 0 0 .nilSlc], a7⟩) n7
  have le7 : S.le ((S.set k4 ⟨4, [zC], a4⟩).set k7 ⟨4, [datC op 0 0 .nilSlc], a7⟩) := DSt.le_set le4 n7'
  generalize (S.set k4 ⟨4, [zC], a4⟩).set k7 ⟨4, [datC op 0 0 .nilSlc], a7⟩ = T7 at *
  rw [ofP, oD, h7.ld, show (datC op 0 0 .nilSlc)[0 + 0]? = some (.int .u8 op) from rfl, oD]
  refine ops_layout_ok.use ?_
  simp only [exD, List.getElem?_cons_zero, List.getElem?_cons_succ, oD, unN]
  cases hlay : lay op with
  | none =>
    rw [show (!(none : Option (List Fld)).isSome) = true from rfl, cdT, fiN, agS, oD]
    have e : decT bs (p : Int) = (zDat, (0, 120)) := by rw [edT]; unfold decS; rw [egd, if_pos hlay]
    refine h4'.st (clA _) ⟨rfl, by decide, by decide⟩ fun a => ?_
    rw [(Cel.new).all (n := 4) (by decide) rfl, oD]
    refine FinD.less (DSt.le_set le7 n4) (FinD.here ⟨.nilSlc, ?_, ?_⟩)
    · rw [e]; rfl
    · rw [e]; exact Grw.nil _ _
  | some l =>
  rw [show (!(some l).isSome) = false from rfl, cdF, biAdd, oD, wrap_i64 (by omega) (by omega)]
  have hag2 : aggD (fillD [.nilSlc, (D.int .i64 0), (.int .i64 0)] [(0, 1, bD bs), (1, 1, .int .i64 ((p : Int) + 1))]) = some (.agg (rdC bs (p + 1, 0))) := rfl
  rw [hag2, oD, clA, oD]
  intro k10 a10 n10
  have hst : DecSt S k4 k7 k10 (datC op 0 0 .nilSlc) bs (p + 1, 0) (T7.set k10 ⟨3, [rdC bs (p + 1, 0)], a10⟩) :=
    ⟨DSt.le_set le7 (DSt.none_of le7 n10), n4, n7', DSt.none_of le7 n10, d47, h4'.set n10, h7.set n10, Cel.new⟩
  have hl2 : l.length ≤ 2 := by have := lay_length (op := op); rw [hlay] at this; exact this
  have hgood : ∀ f ∈ l, goodF f := by have := goodF_lay op; rw [hlay] at this; exact this
  have hgd : (lay op).getD [] = l := by rw [hlay]; rfl
  rw [lnL, oD, rowsF_length, hgd]
  have hl60 : bs.length < 2 ^ 60 := by omega
  have edS : decS bs p = if (decX bs p).2.2 ≠ 0 then (zDat, (0, (decX bs p).2.2)) else decX bs p := by
    unfold decS; rw [egd, if_neg (by rw [hlay]; simp)]
  refine loop_ops_Decode_0 (I := fun n x4 x7 x10 x45 x46 x47 T => x4 = .ptr k4 0 ∧ x7 = .ptr k7 0 ∧ x10 = .ptr k10 0 ∧ x45 = .lst (rowsF op) 2 ∧ x46 = .int .i64 (l.length : Int) ∧ ∃ (j : Nat) (a b : Int) (s : Nat × Int), x47 = .int .i64 (j : Int) ∧ j + n = l.length ∧
      DecSt S k4 k7 k10 (datC op a b .nilSlc) bs s T ∧ s.1 ≤ bs.length ∧ foldF bs j a b s (l.drop j) = rdFields bs l (p + 1, 0)) ?_ (n := l.length)
    ⟨rfl, rfl, rfl, rfl, rfl, 0, 0, 0, (p + 1, 0), rfl, by omega, hst, by show p + 1 ≤ bs.length; omega, foldF_is hl2⟩
  rintro n _ _ _ _ _ _ T ⟨rfl, rfl, rfl, rfl, rfl, j, a, b, s, rfl, hjn, hd, hs, hfold⟩
  unfold B_ops_Decode_0
  rw [biLt, oD, cdI]
  refine ⟨fun hlt => ?_, fun hge => ?_⟩
  · have hlt : j < l.length := by omega
    obtain ⟨f, hf⟩ : ∃ f, f = l[j] := ⟨_, rfl⟩
    have hjf : l[j]? = some f := by rw [List.getElem?_eq_getElem hlt, hf]
    obtain ⟨row, hrow, hfd⟩ := rowsF_at (op := op) (i := j) (f := f) (by rw [hgd]; exact hjf)
    have hg := hgood f (by rw [hf]; exact List.getElem_mem _)
    have hg1 := hg.1
    have hg8 := goodF_size hg
    have hrl := hfd.len
    rw [idxL hrow, oD, laE, if_pos ⟨by decide, by omega⟩, oD, List.drop_zero, List.take_of_length_le (by omega)]
    intro k ak nk
    refine (Cel.new (sz := 2) (c := [D.int .i64 0, .nilFn])).st (ds := row) (clA _) ⟨hrl, by decide, by simp⟩ fun ak => ?_
    rw [DSt.set_set, fld_box hfd]
    have hd2 := hd.new (o := ⟨2, [row], ak⟩) nk
    have hc : Cel (T.set k ⟨2, [row], ak⟩) k 2 row := Cel.new
    change optW _ _
    rw [foldF_drop hjf] at hfold
    have hI := rdS_le (f := f) hs
    rw [biEq, oD, cdB]
    refine ⟨fun h0 => ?_, fun h0 => ?_⟩
    · have h0 : j = 0 := by have : (j : Int) = 0 := by simpa using h0
                            omega
      rw [if_pos h0, if_pos h0] at hfold
      rw [hc.all (n := 2) (by decide) hrl.symm, oD]
      refine (dec_read hd2 hb hl60 hs hfd hg1 hg8).use ?_
      rintro v T2 ⟨rfl, hd3, _⟩
      rw [ofP, oD]
      refine hd3.h7.st (clI _ _) ⟨rfl, by decide, by simp [datC]⟩ fun a7 => ?_
      rw [biAdd, oD, wrap_i64 (by omega) (by omega)]
      exact ⟨n - 1, by omega, rfl, rfl, rfl, rfl, rfl, j + 1, _, b, _, rfl, by omega, hd3.set7 (c := datC op (rdS bs f s).1 b .nilSlc), hI, hfold⟩
    · have h0 : ¬ j = 0 := by have : ¬ (j : Int) = 0 := by simpa using h0
                              omega
      rw [if_neg h0, if_neg h0] at hfold
      rw [hc.all (n := 2) (by decide) hrl.symm, oD]
      refine (dec_read hd2 hb hl60 hs hfd hg1 hg8).use ?_
      rintro v T2 ⟨rfl, hd3, _⟩
      rw [ofP, oD]
      refine hd3.h7.st (clI _ _) ⟨rfl, by decide, by simp [datC]⟩ fun a7 => ?_
      rw [biAdd, oD, wrap_i64 (by omega) (by omega)]
      exact ⟨n - 1, by omega, rfl, rfl, rfl, rfl, rfl, j + 1, a, _, _, rfl, by omega, hd3.set7 (c := datC op a (rdS bs f s).1 .nilSlc), hI, hfold⟩
  · have hj' : j = l.length := by omega
    subst hj'
    rw [List.drop_length, foldF] at hfold
    rw [ofP, oD, hd.h7.ld, show (datC op a b .nilSlc)[0 + 0]? = some (.int .u8 op) from rfl, oD, biEq, oD, cdB]
    refine ⟨fun h49 => ?_, fun h49 => ?_⟩
    · have h49 : op = 49 := by simpa using h49
      have hb0 : b = 0 := by
        have hl1 := lay49 hlay h49
        rw [hl1] at hfold
        exact congrArg (fun q : Int × Int × (Nat × Int) => q.2.1) hfold
      subst hb0
      have edX : decX bs p = decSw bs 49 a s := by unfold decX; rw [egd, if_pos h49, hgd, ← hfold]
      have d7 : ∀ {k : Nat}, T k = none → k7 ≠ k := fun hk => hd.h7.none hk
      have hfin : ∀ {k l : Nat} {T' : DSt}, T k = none → T l = none → DecSt S k4 k7 k10 (datC op a 0 .nilSlc) bs s T' → Cel T' k 2 [.int .i64 4, betD 0 4294967295] → Cel T' l 2 [.int .i64 8, fitD (IntKind.u8.wrap a)] →
          C_ops_Decode_34 E w0 false (FinD E (fun v S' => ∃ t, v = datT (decT bs (p : Int)) t ∧ Grw S t ((decT bs (p : Int)).1.2.2.2.map armR) 2 S')) (.ptr k4 0) (.ptr k7 0) (.ptr k10 0) (.ptr k 0) (.ptr l 0) T' := fun {k l T'} nk nl hd' c1 c2 => by
        refine dec_sw hb hl hd' hs c1 c2 (DSt.none_of hd.le nk) (DSt.none_of hd.le nl) ⟨d7 nk, d7 nl⟩ fun t S' hg => ?_
        rw [h49]
        rw [h49] at hg
        by_cases he : (decSw bs 49 a s).2.2 = 0
        · rw [if_pos he]
          have e : decT bs (p : Int) = decSw bs 49 a s := by rw [edT, edS, edX, if_neg (by simp [he])]
          refine FinD.here ⟨t, ?_, by rw [e]; exact hg⟩
          rw [e]
          unfold datT
          rw [he]
          rfl
        · rw [if_neg he]
          have e : decT bs (p : Int) = (zDat, (0, (decSw bs 49 a s).2.2)) := by rw [edT, edS, edX, if_pos he]
          refine FinD.less hg.le (FinD.here ⟨.nilSlc, ?_, by rw [e]; exact Grw.nil _ _⟩)
          rw [e]; rfl
      have ld1 : loadSc T (.ptr k7 (0 + 1)) = some (.int .i64 a) := hd.h7.ld 1
      have hA : ∀ {k l : Nat} {ak al : List AV}, T k = none → (T.set k ⟨2, [[.int .i64 0, .nilFn]], ak⟩) l = none → ∀ ak al, C_ops_Decode_34 E w0 false (FinD E (fun v S' => ∃ t, v = datT (decT bs (p : Int)) t ∧ Grw S t ((decT bs (p : Int)).1.2.2.2.map armR) 2 S')) (.ptr k4 0) (.ptr k7 0) (.ptr k10 0) (.ptr k 0) (.ptr l 0)
          ((T.set k ⟨2, [[.int .i64 4, betD 0 4294967295]], ak⟩).set l ⟨2, [[.int .i64 8, fitD (IntKind.u8.wrap a)]], al⟩) := fun {k l _ _} nk nl ak al => by
        obtain ⟨ne, nl'⟩ := DSt.fresh nl
        have nl2 : (T.set k ⟨2, [[.int .i64 4, betD 0 4294967295]], ak⟩) l = none := by rw [DSt.set_ne _ _ _ ne]; exact nl'
        exact hfin nk nl' ((hd.new nk).new nl2) ((Cel.new).set nl2) Cel.new
      have hB : ∀ {k l : Nat} {ak al : List AV}, T k = none → (T.set k ⟨2, [[.int .i64 0, .nilFn]], ak⟩) l = none → ∀ ak al, C_ops_Decode_34 E w0 false (FinD E (fun v S' => ∃ t, v = datT (decT bs (p : Int)) t ∧ Grw S t ((decT bs (p : Int)).1.2.2.2.map armR) 2 S')) (.ptr k4 0) (.ptr k7 0) (.ptr k10 0) (.ptr l 0) (.ptr k 0)
          ((T.set k ⟨2, [[.int .i64 8, fitD (IntKind.u8.wrap a)]], ak⟩).set l ⟨2, [[.int .i64 4, betD 0 4294967295]], al⟩) := fun {k l _ _} nk nl ak al => by
        obtain ⟨ne, nl'⟩ := DSt.fresh nl
        have nl2 : (T.set k ⟨2, [[.int .i64 8, fitD (IntKind.u8.wrap a)]], ak⟩) l = none := by rw [DSt.set_ne _ _ _ ne]; exact nl'
        exact hfin nl' nk ((hd.new nk).new nl2) Cel.new ((Cel.new).set nl2)
      have l0 : ∀ {k : Nat} {o : DObj}, T k = none → (T.set k o) k7 = T k7 := fun nk => DSt.set_ne _ _ _ (d7 nk)
      refine ⟨rfl, ?_, ?_, ?_, ?_, ?_, ?_, ?_, ?_, ?_, ?_, ?_, ?_, by trivial⟩
      all_goals (repeat (first | refine ⟨by trivial, ?_⟩ | refine ops_between_ok.useX ?_ | refine ops_fits_ok.useX ?_ | rw [fill2 (clBet _ _), oD] | rw [fill2 (clFit _), oD] | rw [ofP, oD] | rw [ld1, oD] | rw [cvI, oD] | refine ⟨⟨⟨by simp [orAny, ld1], rfl⟩, by trivial⟩, ?_⟩))
      all_goals (intro k ak nk)
      all_goals (have f1 := l0 (o := ⟨2, [[.int .i64 0, .nilFn]], ak⟩) nk)
      all_goals (repeat (first | refine ⟨by trivial, ?_⟩ | refine ops_between_ok.useX ?_ | refine ops_fits_ok.useX ?_ | rw [fill2 (clBet _ _), oD] | rw [fill2 (clFit _), oD] | refine ⟨⟨f1, by trivial⟩, ?_⟩))
      all_goals (intro l' al nl)
      all_goals (have f2 : ∀ {o : DObj}, ((T.set k ⟨2, [[.int .i64 0, .nilFn]], ak⟩).set l' o) k7 = T k7 := fun {o} => by rw [DSt.set_ne _ _ _ (d7 (DSt.fresh nl).2)]; exact f1)
      all_goals (have ne : k ≠ l' := Ne.symm (DSt.fresh nl).1)
      all_goals (repeat (first | refine ⟨by trivial, ?_⟩ | refine ops_between_ok.useX ?_ | refine ops_fits_ok.useX ?_ | rw [fill2 (clBet _ _), oD] | rw [fill2 (clFit _), oD] | refine ⟨⟨f2, by trivial⟩, ?_⟩))
      all_goals (first
        | refine stP (k := k) (cs := [.int .i64 0, .nilFn]) (DSt.set_ne _ _ _ ne |>.trans (DSt.set_same _ _ _)) (clA _) ⟨rfl, by decide, by simp⟩ fun a1 => ?_
        | refine stP (k := l') (cs := [.int .i64 0, .nilFn]) (DSt.set_same _ _ _) (clA _) ⟨rfl, by decide, by simp⟩ fun a1 => ?_)
      all_goals (refine ⟨by trivial, ?_⟩)
      all_goals (first
        | refine stP (k := l') (cs := [.int .i64 0, .nilFn]) ((DSt.set_ne _ _ _ (Ne.symm ne)).trans (DSt.set_same _ _ _)) (clA _) ⟨rfl, by decide, by simp⟩ fun a2 => ?_
        | refine stP (k := k) (cs := [.int .i64 0, .nilFn]) (((DSt.set_ne _ _ _ ne).trans (DSt.set_ne _ _ _ ne)).trans (DSt.set_same _ _ _)) (clA _) ⟨rfl, by decide, by simp⟩ fun a2 => ?_)
      all_goals (refine ⟨by trivial, ?_⟩)
      all_goals (first | rw [two1 _ ne] | rw [two2 _ ne])
      all_goals (first | exact hA (al := al) nk nl _ _ | exact hB (al := al) nk nl _ _)
    · have h49 : ¬ op = 49 := by simpa using h49
      have edX : decX bs p = ((op, a, b, []), s) := by unfold decX; rw [egd, if_neg h49, hgd, ← hfold]
      refine dec_end hd.h4 hd.h7 hd.h10 rfl rfl fun S'' hS'' => ?_
      have hle : S.le S'' := fun i o e => by rw [hS'' i (fun e' => by rw [e', hd.n4] at e; cases e)]; exact hd.le _ _ e
      refine FinD.less hle (FinD.here ⟨.nilSlc, ?_, ?_⟩)
      · by_cases he : s.2 = 0
        · rw [if_pos he, edT, edS, edX, if_neg (by simp [he])]
          unfold datT; rw [he]
        · rw [if_neg he, edT, edS, edX, if_pos (by simpa using he)]; rfl
      · rw [edT, edS, edX]
        by_cases he : s.2 = 0
        · rw [if_neg (by simp [he])]; exact Grw.nil _ _
        · rw [if_pos (by simpa using he)]; exact Grw.nil _ _
end
end Go.Proofs.Ytcboaonbfgjmgaa.d
end

section
namespace Go.Am
set_option linter.unusedVariables false
set_option linter.unusedSimpArgs false
/-- The object of a slice that is turned. -/
def ob : D → List Nat
  | .raw k _ _ _ _ _ => [k]
  | _ => []
section
variable {S T : DSt} {av : List Nat} {t u : D} {rows rows' : List (List D)} {sz sz' : Nat}
theorem GrA.ob_some (h : GrA S av t rows sz T) : ∀ j ∈ ob t, T j ≠ Option.none := by
  rcases h with ⟨rfl, _⟩ | ⟨k, acs, _, _, rfl, h3⟩
  · simp [ob]
  · simp [ob, h3]
theorem GrA.ob_av (h : GrA S av t rows sz T) : ∀ j ∈ ob t, j ∉ av := by
  rcases h with ⟨rfl, _⟩ | ⟨k, acs, _, h1, rfl, _⟩
  · simp [ob]
  · simpa [ob] using h1
/-- Other objects that are to be kept apart. -/
theorem GrA.apart (h : GrA S av t rows sz T) {T' : DSt} {av' : List Nat} (e : ∀ j ∈ ob t, T' j = T j) (ha : ∀ j ∈ ob t, j ∉ av') : GrA S av' t rows sz T' := by
  rcases h with h | ⟨k, acs, h0, h1, rfl, h3⟩
  · exact .inl h
  · exact .inr ⟨k, acs, h0, ha k (by simp [ob]), rfl, by rw [e k (by simp [ob])]; exact h3⟩
theorem FinD.grA {E : Env} {Q : D → DSt → Prop} {pre post : List D} (h : GrA S av t rows sz T) (hle : S.le T) (hQ : ∀ T', S.le T' → (∀ j, j ∉ ob t → T' j = T j) → FinD E Q (.tup (pre ++ .lst rows sz :: post)) T') : FinD E Q (.tup (pre ++ t :: post)) T := by
  rcases h with ⟨rfl, rfl⟩ | ⟨k, acs, h0, h1, rfl, h3⟩
  · exact FinD.nilT (hQ T hle fun _ _ => rfl)
  · refine FinD.freezeT h3 rfl (by simp) (Nat.le_refl _) ?_
    simpa using hQ (T.erase k) (DSt.le_erase hle h0) fun j hj => DSt.erase_ne _ _ (by simpa [ob] using hj)
def GrP (S : DSt) (av : List Nat) (t : D) (rows : List (List D)) (sz : Nat) (u : D) (rows' : List (List D)) (sz' : Nat) (T : DSt) : Prop :=
  S.le T ∧ (∀ j ∈ av, T j ≠ Option.none) ∧ GrA S (ob u ++ av) t rows sz T ∧ GrA S (ob t ++ av) u rows' sz' T
theorem GrP.nil : GrP S [] .nilSlc [] sz .nilSlc [] sz' S := ⟨DSt.le_refl _, by simp, GrA.nil, GrA.nil⟩
theorem GrP.swap (h : GrP S av t rows sz u rows' sz' T) : GrP S av u rows' sz' t rows sz T := ⟨h.1, h.2.1, h.2.2.2, h.2.2.1⟩
theorem GrP.push (h : GrP S av t rows sz u rows' sz' T) {bytes : Nat} {v : D} {news : List (List D)} (hv : rowsS T sz v = some news) (hn : news ≠ []) (hb : 0 < bytes ∧ (2 * (rows.length + news.length) + 768) * bytes ≤ 2 ^ 47) {K : D → DSt → Prop}
    (hK : ∀ t' T', (∀ j ∈ av, T' j = T j) → GrP S av t' (rows ++ news) sz u rows' sz' T' → K t' T') : appendD T sz bytes t v K := by
  obtain ⟨h1, h2, h3, h4⟩ := h
  refine h3.push h1 (fun j hj => ?_) hv hn hb fun t' T' hle he hg => hK t' T' (fun j hj => he j (List.mem_append_right _ hj)) ⟨hle, fun j hj => ?_, hg, ?_⟩
  · rcases List.mem_append.1 hj with hj | hj
    · exact h4.ob_some j hj
    · exact h2 j hj
  · rw [he j (List.mem_append_right _ hj)]; exact h2 j hj
  · refine h4.apart (fun j hj => he j (List.mem_append_left _ hj)) fun j hj hm => ?_
    rcases List.mem_append.1 hm with hm | hm
    · exact hg.ob_av j hm (List.mem_append_left _ hj)
    · exact h4.ob_av j hj (List.mem_append_right _ hm)
theorem GrP.set (h : GrP S av t rows sz u rows' sz' T) {l : Nat} {o : DObj} (hl : T l = Option.none) : GrP S av t rows sz u rows' sz' (T.set l o) := by
  obtain ⟨h1, h2, h3, h4⟩ := h
  exact ⟨DSt.le_set h1 (DSt.none_of h1 hl), fun j hj => (by rw [DSt.set_ne _ _ _ (fun e => h2 j hj (by rw [e]; exact hl))]; exact h2 j hj), h3.set (.inr hl), h4.set (.inr hl)⟩
/-- One more that is to be kept apart: one that was not there. -/
theorem GrP.more (h : GrP S av t rows sz u rows' sz' T) {l : Nat} {o : DObj} (hl : T l = Option.none) : GrP S (l :: av) t rows sz u rows' sz' (T.set l o) := by
  have hs := h.set (o := o) hl
  have n1 : ∀ j ∈ ob t, j ≠ l := fun j hj e => h.2.2.1.ob_some j hj (e ▸ hl)
  have n2 : ∀ j ∈ ob u, j ≠ l := fun j hj e => h.2.2.2.ob_some j hj (e ▸ hl)
  refine ⟨hs.1, fun j hj => ?_, hs.2.2.1.apart (fun _ _ => rfl) fun j hj hm => ?_, hs.2.2.2.apart (fun _ _ => rfl) fun j hj hm => ?_⟩
  · rcases List.mem_cons.1 hj with rfl | hj
    · rw [DSt.set_same]; simp
    · exact hs.2.1 j hj
  · rcases List.mem_append.1 hm with hm | hm
    · exact hs.2.2.1.ob_av j hj (List.mem_append_left _ hm)
    · rcases List.mem_cons.1 hm with rfl | hm
      · exact n1 _ hj rfl
      · exact hs.2.2.1.ob_av j hj (List.mem_append_right _ hm)
  · rcases List.mem_append.1 hm with hm | hm
    · exact hs.2.2.2.ob_av j hj (List.mem_append_left _ hm)
    · rcases List.mem_cons.1 hm with rfl | hm
      · exact n2 _ hj rfl
      · exact hs.2.2.2.ob_av j hj (List.mem_append_right _ hm)
theorem GrP.fin {E : Env} {Q : D → DSt → Prop} {post : List D} (h : GrP S av t rows sz u rows' sz' T) (hQ : FinD E Q (.tup (.lst rows sz :: .lst rows' sz' :: post)) S) : FinD E Q (.tup (t :: u :: post)) T := by
  obtain ⟨h1, h2, h3, h4⟩ := h
  refine FinD.grA (pre := []) h3 h1 fun T' hle he => ?_
  have h4' : GrA S (ob t ++ av) u rows' sz' T' := h4.apart (fun j hj => he j fun hm => h3.ob_av j hm (List.mem_append_left _ hj)) fun j hj hm => h4.ob_av j hj hm
  exact FinD.grA (pre := [.lst rows sz]) h4' hle fun T2 hle2 _ => FinD.less hle2 hQ
end
end Go.Am
end

section
open Go.Proofs Go Go.Am Go.Op
namespace Go.Proofs.Ytcboaonbfgjmgaa.d
set_option linter.unusedVariables false
set_option linter.unusedSimpArgs false
set_option maxRecDepth 100000
@[simp] theorem fldsD_rows (S : DSt) (l : List (Tx × Int)) : rowsS S 2 (fldsD l) = some (l.map fldR) := by simp [fldsD, rowsS, rowsOf]
@[simp] theorem txsD_rows (S : DSt) (l : List Tx) : rowsS S 1 (txsD l) = some (ones (l.map D.str)) := by simp [txsD, rowsS, rowsOf]
theorem Grw.cells {S0 S : DSt} {t : D} {rows : List (List D)} {sz : Nat} (g : Grw S0 t rows sz S) : cellsD t = some [t] := by rcases g with ⟨rfl, _⟩ | ⟨_, _, _, rfl, _⟩ <;> rfl
/-- The small bounds of what may be lent. -/
structure Mo.Fits (m : Mo) : Prop where
  ok : m.Ok
  types : m.types.length < 2 ^ 30
  texts : m.texts.length < 2 ^ 30
  funcs : m.funcs.length < 2 ^ 30
  fields : ∀ t ∈ m.types, t.fields.length < 2 ^ 30
  params : ∀ r ∈ m.funcs, r.params.length < 2 ^ 30 ∧ r.results.length < 2 ^ 30 ∧ r.code.length < 2 ^ 30
section
variable {E : Env} {w0 : World}
end
end Go.Proofs.Ytcboaonbfgjmgaa.d
end

section
open Go.Proofs Go Go.Am Go.Op
namespace Go.Proofs.Ytcboaonbfgjmgaa.d
set_option linter.unusedVariables false
set_option linter.unusedSimpArgs false
set_option maxRecDepth 100000
def PureW (P : Program) (E : Env) (w0 : World) (f : FuncId) (ds : List D) (d : D) : Prop := ∀ S, DFn P E w0 false f ds S fun d' S' => d' = d ∧ S' = S
theorem PureW.use {P : Program} {E : Env} {w0 : World} {f : FuncId} {ds : List D} {d : D} (h : PureW P E w0 f ds d) {S : DSt} {K : D → DSt → Prop} (hk : K d S) : DFn P E w0 false f ds S K := (h S).use fun d' S' ⟨a, b⟩ => by subst a b; exact hk
section
variable {E : Env} {w0 : World}
end
end Go.Proofs.Ytcboaonbfgjmgaa.d
end

section
open Go.Proofs Go Go.Am Go.Op
namespace Go.Proofs.Ytcboaonbfgjmgaa.d
set_option linter.unusedVariables false
set_option linter.unusedSimpArgs false
set_option maxRecDepth 100000
def inOf (d : Dat) : In := ⟨d.1, d.2.1, d.2.2.1, d.2.2.2⟩
theorem inOf_dat (d : Dat) : (inOf d).dat = d := rfl
def insD (l : List In) : D := .lst (l.map inC) 4
def datV (r : Dat × (Nat × Int)) : D := .tup [inD (inOf r.1), .int .i64 (r.2.1 : Int), .int .i64 r.2.2]
def insOf (l : List (Dat × Nat)) : List In := l.map fun x => inOf x.1
def plsOf (l : List (Dat × Nat)) : List Int := l.map fun x => (x.2 : Int)
def allV (r : Except Int (List (Dat × Nat))) : D := match r with
  | .ok l => .tup [insD (insOf l), iD (plsOf l), .int .i64 0]
  | .error e => .tup [insD [], iD [], .int .i64 e]
abbrev allS (bs : List Int) : Except Int (List (Dat × Nat)) := allT bs (bs.length + 1) 0
theorem allT_step {bs : List Int} {n p : Nat} (hp : p < bs.length) : allT bs (n + 1) p = if (decT bs p).2.2 = 0 then (match allT bs n (decT bs p).2.1 with | .ok l => .ok (((decT bs p).1, p) :: l) | .error e => .error e) else .error (decT bs p).2.2 := by
  rw [allT, if_neg (by omega)]
  all_goals rfl
theorem prep_step {done : List (Dat × Nat)} {x : Dat × Nat} (r : Except Int (List (Dat × Nat))) : prep done (match r with | .ok l => .ok (x :: l) | .error e => .error e) = prep (done ++ [x]) r := by
  cases r with
  | error e => rfl
  | ok l => simp [prep]
theorem dec_next {bs : List Int} (hb : ∀ b ∈ bs, Byte b) {p : Nat} (h : (decT bs (p : Int)).2.2 = 0) : (inOf (decT bs p).1).Ok ∧ p < (decT bs p).2.1 ∧ (decT bs p).2.1 ≤ bs.length := by
  obtain ⟨_, _, h3, _, hsg, hnx⟩ := decT_is hb h (inOf_dat _)
  rw [Int.toNat_natCast] at hnx hsg
  have := enc_pos (inOf (decT bs p).1)
  have := hsg.1
  exact ⟨h3, by omega, by omega⟩
section
variable {E : Env} {w0 : World}
theorem frz_whole {k sz : Nat} {rows : List (List D)} {acs : List AV} : Am.frz k ⟨sz, rows, acs⟩ (.raw k 0 rows.length rows.length false sz) = .lst rows sz := by
  rw [frz_raw (by omega) (Nat.le_refl _), List.drop_zero, List.take_length]
theorem ops_Decode_ok {bs : List Int} (hb : ∀ b ∈ bs, Byte b) (hl : bs.length < 2 ^ 30) {n : Int} : PureW Try.prog E w0 f_ops_Decode [bD bs, .int .i64 n] (datV (decT bs n)) := fun S =>
  (ops_Decode_own hb hl).fin fun v S' ⟨t, ev, g⟩ => by
    subst ev
    rcases g with ⟨rfl, e, rfl⟩ | ⟨k, acs, h0, rfl, rfl⟩
    · refine FinD.weak (d' := datV (decT bs n)) ?_ FinD.pure
      refine Wk.tup ⟨Wk.agg ⟨Wk.refl _, Wk.refl _, Wk.refl _, ?_, trivial⟩, Wk.refl _, Wk.refl _, trivial⟩
      have : armD (inOf (decT bs n).1).arms = .lst [] 2 := by unfold armD; rw [show (inOf (decT bs n).1).arms = (decT bs n).1.2.2.2 from rfl, e]
      rw [this]
      exact Wk.nil 2
    · refine FinD.frz h0 ?_
      have : Am.frz k ⟨2, (decT bs n).1.2.2.2.map armR, acs⟩ (datT (decT bs n) (.raw k 0 ((decT bs n).1.2.2.2.map armR).length ((decT bs n).1.2.2.2.map armR).length false 2)) = datV (decT bs n) := by
        have e : ∀ (o : DObj) (a b c d e : Int) (tt : D), Am.frz k o (.tup [.agg [.int .u8 a, .int .i64 b, .int .i64 c, tt], .int .i64 d, .int .i64 e]) = .tup [.agg [.int .u8 a, .int .i64 b, .int .i64 c, Am.frz k o tt], .int .i64 d, .int .i64 e] := by
          intros; simp only [Am.frz, Am.frzL]
        unfold datT datC
        rw [e, frz_whole]
        rfl
      rw [this]
      exact FinD.pure
theorem lit_in {op a b : Int} {t : D} (ht : cellsD t = some [t]) : fillR 4 (List.replicate 1 [(D.int .u8 0), (.int .i64 0), (.int .i64 0), .nilSlc]) [(0, .agg (datC op a b t))] = some [datC op a b t] := rfl
theorem ops_All_ok {bs : List Int} (hb : ∀ b ∈ bs, Byte b) (hl : bs.length < 2 ^ 30) : PureW Try.prog E w0 f_ops_All [bD bs] (allV (allS bs)) := fun S => by
  refine V_ops_All_ok ?_
  unfold V_ops_All
  refine loop_ops_All_0 (I := fun n x0 x5 x6 x7 T => x0 = bD bs ∧ ∃ (p : Nat) (done : List (Dat × Nat)), x7 = .int .i64 (p : Int) ∧ p ≤ bs.length ∧ bs.length < p + n ∧ done.length ≤ p ∧ GrP S [] x5 ((insOf done).map inC) 4 x6 (iC (plsOf done)) 1 T ∧ allS bs = prep done (allT bs n p)) ?_ (n := bs.length + 1)
    ⟨rfl, 0, [], rfl, by omega, by omega, by simp, GrP.nil, by unfold allS; cases allT bs (bs.length + 1) 0 <;> rfl⟩
  rintro n _ x5 x6 _ T ⟨rfl, p, done, rfl, hp, hpn, hdl, hg, hrun⟩
  unfold B_ops_All_0
  rw [bD_len, oD, biLt, oD, cdI]
  obtain ⟨n, rfl⟩ : ∃ m, n = m + 1 := ⟨n - 1, by omega⟩
  refine ⟨fun hlt => ?_, fun hge => ?_⟩
  · have hlt : p < bs.length := by omega
    rw [allT_step hlt] at hrun
    refine (ops_Decode_ok hb hl).use ?_
    unfold datV
    simp only [exD, List.getElem?_cons_zero, List.getElem?_cons_succ, oD]
    intro k a nk
    refine (Cel.new (sz := 4) (c := [.int .u8 0, .int .i64 0, .int .i64 0, .nilSlc])).st (ds := inC (inOf (decT bs p).1)) (clA _) ⟨rfl, by decide, by decide⟩ fun a' => ?_
    rw [DSt.set_set, show setManyD [.int .u8 0, .int .i64 0, .int .i64 0, .nilSlc] 0 (inC (inOf (decT bs p).1)) = inC (inOf (decT bs p).1) from rfl, biNe, oD, bneD, cdI]
    have hg2 := hg.set (o := ⟨4, [inC (inOf (decT bs p).1)], a'⟩) nk
    refine ⟨fun he => ?_, fun he => ?_⟩
    · rw [if_neg he] at hrun
      rw [hrun]
      refine FinD.less hg2.1 (FinD.weak (d' := .tup [insD [], iD [], .int .i64 (decT bs p).2.2]) (Wk.tup ⟨Wk.nil 4, Wk.nil 1, Wk.refl _, trivial⟩) FinD.pure)
    · have he : (decT bs p).2.2 = 0 := Classical.not_not.1 he
      obtain ⟨_, h1, h2⟩ := dec_next hb he
      rw [if_pos he, prep_step] at hrun
      rw [(Cel.new).all (n := 4) (by decide) rfl, oD, show fillR 4 (List.replicate 1 [(D.int .u8 0), (.int .i64 0), (.int .i64 0), .nilSlc]) [(0, .agg (inC (inOf (decT bs p).1)))] = some [inC (inOf (decT bs p).1)] from rfl]
      refine lit_lst rfl ?_
      refine hg2.push (news := [inC (inOf (decT bs p).1)]) (by simp [rowsS, rowsOf]) (by simp) (by simp [insOf]; omega) fun t' T' _ hg3 => ?_
      rw [show fillR 1 (List.replicate 1 [D.int .i64 0]) [(0, .int .i64 (p : Int))] = some (iC [(p : Int)]) from rfl]
      refine lit_lst rfl ?_
      refine hg3.swap.push (news := iC [(p : Int)]) (by simp [rowsS, rowsOf]) (by simp [iC, ones]) (by simp [plsOf]; omega) fun u' T2 _ hg4 => ?_
      refine ⟨n, by omega, by trivial, (decT bs p).2.1, done ++ [((decT bs p).1, p)], rfl, h2, by omega, by simp; omega, ?_, hrun⟩
      have e1 : (insOf (done ++ [((decT bs p).1, p)])).map inC = (insOf done).map inC ++ [inC (inOf (decT bs p).1)] := by simp [insOf]
      have e2 : iC (plsOf (done ++ [((decT bs p).1, p)])) = iC (plsOf done) ++ iC [(p : Int)] := by rw [← iC_append]; simp [plsOf]
      rw [e1, e2]
      exact hg4.swap
  · have e0 : allT bs (n + 1) p = .ok [] := by rw [allT, if_pos (by omega)]
    rw [e0] at hrun
    rw [hrun]
    refine hg.fin ?_
    have : allV (prep done (.ok [])) = .tup [.lst ((insOf done).map inC) 4, .lst (iC (plsOf done)) 1, .int .i64 0] := by simp [allV, prep, insD, iD]
    rw [this]
    exact FinD.pure
/-- Instructions whose arms are objects of one's own: with their arms' slices. -/
abbrev OwnIn := (Dat × Nat) × D
def ownR (l : List OwnIn) : List (List D) := l.map fun x => datC x.1.1.1 x.1.1.2.1 x.1.1.2.2.1 x.2
def OwnAll (S : DSt) (l : List OwnIn) (t u : D) (T : DSt) : Prop := ∃ av, GrP S av t (ownR l) 4 u (iC (plsOf (l.map (·.1)))) 1 T ∧ (∀ j ∈ av, S j = none) ∧ ∀ x ∈ l, (x.2 = .nilSlc ∧ x.1.1.2.2.2 = []) ∨ ∃ k acs, k ∈ av ∧ x.2 = .raw k 0 (x.1.1.2.2.2.map armR).length (x.1.1.2.2.2.map armR).length false 2 ∧ T k = some ⟨2, x.1.1.2.2.2.map armR, acs⟩
/-- What All answers, its lists being one's own. -/
def AllOwn (S : DSt) (r : Except Int (List (Dat × Nat))) (v : D) (T : DSt) : Prop := match r with
  | .ok l => ∃ (ls : List OwnIn) (t u : D), ls.map (·.1) = l ∧ v = .tup [t, u, .int .i64 0] ∧ OwnAll S ls t u T
  | .error e => v = .tup [.nilSlc, .nilSlc, .int .i64 e] ∧ T = S
theorem ops_All_own {bs : List Int} (hb : ∀ b ∈ bs, Byte b) (hl : bs.length < 2 ^ 30) {S : DSt} : DFn Try.prog E w0 false f_ops_All [bD bs] S (AllOwn S (allS bs)) := by
  refine V_ops_All_ok ?_
  unfold V_ops_All
  refine loop_ops_All_0 (I := fun n x0 x5 x6 x7 T => x0 = bD bs ∧ ∃ (p : Nat) (done : List OwnIn), x7 = .int .i64 (p : Int) ∧ p ≤ bs.length ∧ bs.length < p + n ∧ done.length ≤ p ∧ OwnAll S done x5 x6 T ∧ allS bs = prep (done.map (·.1)) (allT bs n p)) ?_ (n := bs.length + 1)
    ⟨rfl, 0, [], rfl, by omega, by omega, by simp, ⟨[], GrP.nil, by simp, by simp⟩, by unfold allS; cases allT bs (bs.length + 1) 0 <;> rfl⟩
  rintro n _ x5 x6 _ T ⟨rfl, p, done, rfl, hp, hpn, hdl, ⟨av, hg, hnew, harm⟩, hrun⟩
  unfold B_ops_All_0
  rw [bD_len, oD, biLt, oD, cdI]
  obtain ⟨n, rfl⟩ : ∃ m, n = m + 1 := ⟨n - 1, by omega⟩
  refine ⟨fun hlt => ?_, fun hge => ?_⟩
  · have hlt : p < bs.length := by omega
    rw [allT_step hlt] at hrun
    refine (ops_Decode_own hb hl).use ?_
    rintro v T1 ⟨tA, rfl, gA⟩
    have hcl : cellsD tA = some [tA] := by rcases gA with ⟨rfl, _⟩ | ⟨_, _, _, rfl, _⟩ <;> rfl
    -- the arms' object beside the others
    obtain ⟨av1, hg1, hnew1, hk1, harmA⟩ : ∃ av1, GrP S av1 x5 (ownR done) 4 x6 (iC (plsOf (done.map (·.1)))) 1 T1 ∧ (∀ j ∈ av1, S j = none) ∧ (∀ j ∈ av, j ∈ av1 ∧ T1 j = T j) ∧
        ((tA = .nilSlc ∧ (decT bs p).1.2.2.2 = []) ∨ ∃ k acs, k ∈ av1 ∧ tA = .raw k 0 ((decT bs p).1.2.2.2.map armR).length ((decT bs p).1.2.2.2.map armR).length false 2 ∧ T1 k = some ⟨2, (decT bs p).1.2.2.2.map armR, acs⟩) := by
      rcases gA with ⟨rfl, e, rfl⟩ | ⟨k, acs, h0, rfl, rfl⟩
      · exact ⟨av, hg, hnew, fun j hj => ⟨hj, rfl⟩, .inl ⟨rfl, by simpa using e⟩⟩
      · refine ⟨k :: av, hg.more h0, fun j hj => ?_, fun j hj => ⟨List.mem_cons_of_mem _ hj, DSt.set_ne _ _ _ fun e => hg.2.1 j hj (by rw [e]; exact h0)⟩, .inr ⟨k, acs, List.mem_cons_self, rfl, DSt.set_same _ _ _⟩⟩
        rcases List.mem_cons.1 hj with rfl | hj
        · exact DSt.none_of hg.1 h0
        · exact hnew j hj
    unfold datT
    simp only [exD, List.getElem?_cons_zero, List.getElem?_cons_succ, oD]
    intro k a nk
    refine (Cel.new (sz := 4) (c := [.int .u8 0, .int .i64 0, .int .i64 0, .nilSlc])).st (ds := datC (decT bs p).1.1 (decT bs p).1.2.1 (decT bs p).1.2.2.1 tA) (clA _) ⟨rfl, by decide, by decide⟩ fun a' => ?_
    rw [DSt.set_set, show setManyD [.int .u8 0, .int .i64 0, .int .i64 0, .nilSlc] 0 (datC (decT bs p).1.1 (decT bs p).1.2.1 (decT bs p).1.2.2.1 tA) = datC (decT bs p).1.1 (decT bs p).1.2.1 (decT bs p).1.2.2.1 tA from rfl, biNe, oD, bneD, cdI]
    have hg2 := hg1.set (o := ⟨4, [datC (decT bs p).1.1 (decT bs p).1.2.1 (decT bs p).1.2.2.1 tA], a'⟩) nk
    have hT2 : ∀ j ∈ av1, (T1.set k ⟨4, [datC (decT bs p).1.1 (decT bs p).1.2.1 (decT bs p).1.2.2.1 tA], a'⟩) j = T1 j := fun j hj => DSt.set_ne _ _ _ fun e => hg1.2.1 j hj (by rw [e]; exact nk)
    refine ⟨fun he => ?_, fun he => ?_⟩
    · rw [if_neg he] at hrun
      rw [hrun]
      exact FinD.less hg2.1 (FinD.here ⟨rfl, rfl⟩)
    · have he : (decT bs p).2.2 = 0 := Classical.not_not.1 he
      obtain ⟨_, h1, h2⟩ := dec_next hb he
      rw [if_pos he, prep_step] at hrun
      rw [(Cel.new).all (n := 4) (by decide) rfl, oD, lit_in hcl]
      refine lit_lst rfl ?_
      refine hg2.push (news := [datC (decT bs p).1.1 (decT bs p).1.2.1 (decT bs p).1.2.2.1 tA]) (by simp [rowsS, rowsOf]) (by simp) (by simp [ownR]; omega) fun t' T' hT' hg3 => ?_
      rw [show fillR 1 (List.replicate 1 [D.int .i64 0]) [(0, .int .i64 (p : Int))] = some (iC [(p : Int)]) from rfl]
      refine lit_lst rfl ?_
      refine hg3.swap.push (news := iC [(p : Int)]) (by simp [rowsS, rowsOf]) (by simp [iC, ones]) (by simp [plsOf]; omega) fun u' T2 hT'' hg4 => ?_
      have hkeep : ∀ j ∈ av1, T2 j = T1 j := fun j hj => by rw [hT'' j hj, hT' j hj, hT2 j hj]
      refine ⟨n, by omega, by trivial, (decT bs p).2.1, done ++ [(((decT bs p).1, p), tA)], rfl, h2, by omega, by simp; omega, ⟨av1, ?_, hnew1, fun x hx => ?_⟩, by simpa using hrun⟩
      · have e1 : ownR (done ++ [(((decT bs p).1, p), tA)]) = ownR done ++ [datC (decT bs p).1.1 (decT bs p).1.2.1 (decT bs p).1.2.2.1 tA] := by simp [ownR]
        have e2 : iC (plsOf ((done ++ [(((decT bs p).1, p), tA)]).map (·.1))) = iC (plsOf (done.map (·.1))) ++ iC [(p : Int)] := by rw [← iC_append]; simp [plsOf]
        rw [e1, e2]
        exact hg4.swap
      · rcases List.mem_append.1 hx with hx | hx
        · rcases harm x hx with h | ⟨k, acs, hk, ex, hT⟩
          · exact .inl h
          · exact .inr ⟨k, acs, (hk1 k hk).1, ex, by rw [hkeep k (hk1 k hk).1, (hk1 k hk).2]; exact hT⟩
        · rw [List.mem_singleton.1 hx]
          rcases harmA with h | ⟨k, acs, hk, ex, hT⟩
          · exact .inl h
          · exact .inr ⟨k, acs, hk, ex, by rw [hkeep k hk]; exact hT⟩
  · have e0 : allT bs (n + 1) p = .ok [] := by rw [allT, if_pos (by omega)]
    rw [e0] at hrun
    rw [hrun]
    refine FinD.here ?_
    show ∃ (ls : List OwnIn) (t u : D), ls.map (·.1) = done.map (·.1) ++ [] ∧ _
    exact ⟨done, x5, x6, by simp, rfl, av, hg, hnew, harm⟩
end
end Go.Proofs.Ytcboaonbfgjmgaa.d
end
