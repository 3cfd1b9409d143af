/-
  The document's 'is'.
-/
import Derived.Test.YtcboaonbfgjmgaaOh
open Go.Proofs Go Go.Am
namespace Go.Proofs.Ytcboaonbfgjmgaa.op
open Go.Proofs.Ytcboaonbfgjmgaa.vb Go.Proofs.Ytcboaonbfgjmgaa.vr
set_option linter.unusedVariables false
set_option linter.unusedSimpArgs false
set_option maxRecDepth 100000

variable {E : Env} {w0 : World}

theorem In.loads {H' : AHeap} {x : In} {k : Nat} (hg : H'.get k = some (.cells x.cells true [])) : loadV Try.prog E H' 5 (.ptr (.new k) 0) = some (.int .u8 x.op) ∧ loadV Try.prog E H' 2 (.ptr (.new k) 1) = some (.int .i64 x.a) ∧ loadV Try.prog E H' 2 (.ptr (.new k) 2) = some (.int .i64 x.b) ∧
    loadV Try.prog E H' 22 (.ptr (.new k) 3) = some x.av ∧ loadV Try.prog E H' 24 (.ptr (.new k) 0) = some (.agg x.cells) :=
  ⟨by rw [ld_5, loadCell_new E hg]; rfl, by rw [ld_2, loadCell_new E hg]; rfl, by rw [ld_2, loadCell_new E hg]; rfl, by rw [ld_22, loadCell_new E hg]; rfl, by rw [ld_24, loadRange_new E hg, if_pos (by simp [In.cells])]; rfl⟩

theorem armOk_is (w : Int) (y : Int × Int) : armOk w y = (decide (fitLo w ≤ y.1 ∧ y.1 ≤ fitHi w) && fLeap.may y.2) := rfl
theorem wU (w : Bool) : wantsA undefA w = some false := (rfl)

section
variable {H : AHeap}

/-- The switch's part of it. -/
theorem isLoop {x : In} (ho : x.Ok) {k1 : Nat} {H1 : AHeap} (F1 : Fine H1) (hg : H1.get k1 = some (.cells x.cells true [])) (hA : ArmsAt E All H1 x.av x.arms) (hs : Stays H H1) {c : Bool}
    (hS : c = (decide (x.arms.length ≤ 65535) && x.arms.all (armOk (IntKind.u8.wrap x.a)) && decide (0 ≤ x.b ∧ x.b ≤ 4294967295)))
    {x0 x2 x3 x4 x6 x7 x8 x9 x10 x11 x12 x13 x14 x15 x16 x17 x18 x19 x20 x21 x22 x23 x24 x25 x26 x27 x28 x29 x30 x31 x32 x33 x34 x35 x36 x37 x38 x39 x40 x41 x42 x43 x44 x45 x46 x47 x48 x49 x50 x51 x52 x53 x54 x55 x56 x57 x58 x59 x60 x61 x62 x63 x64 x65 x66 x67 x68 x69 x70 x71 x72 x73 x74 x75 x76 x77 x78 x79 x80 x81 x82 x83 x84 x85 x86 x87 x88 x89 x90 x91 x92 x93 x94 x95 x96 x97 x98 x99 x100 x101 x102 x103 x104 : AV} :
    CodeX Try.prog E w0 (.loop L37_0) [x0, .ptr (.new k1) 0, x2, x3, x4, .int .i64 0, x6, x7, x8, x9, x10, x11, x12, x13, x14, x15, x16, x17, x18, x19, x20, x21, x22, x23, x24, x25, x26, x27, x28, x29, x30, x31, x32, x33, x34, x35, x36, x37, x38, x39, x40, x41, x42, x43, x44, x45, x46, x47, x48, x49, x50, x51, x52, x53, x54, x55, x56, x57, x58, x59, x60, x61, x62, x63, x64, x65, x66, x67, x68, x69, x70, x71, x72, x73, x74, x75, x76, x77, x78, x79, x80, x81, x82, x83, x84, x85, x86, x87, x88, x89, x90, x91, x92, x93, x94, x95, x96, x97, x98, x99, x100, x101, x102, x103, x104] H1
      (K37_0 E w0 fun v H' => v = .bool c ∧ Stays H H') := by
  refine loop37_0 (I := fun n t1 t5 H' => t1 = .ptr (.new k1) 0 ∧ ∃ i : Nat, t5 = .int .i64 (i : Int) ∧ i + n = x.arms.length ∧ Fine H' ∧ Stays H1 H' ∧ x.arms.all (armOk (IntKind.u8.wrap x.a)) = (x.arms.drop i).all (armOk (IntKind.u8.wrap x.a))) ?_ (n := x.arms.length)
    ⟨rfl, 0, rfl, by omega, F1, fun _ _ _ h => h, rfl⟩
  rintro n _ _ H2 ⟨rfl, i, rfl, hi, F2, s2, hall⟩
  intros
  unfold B37_0
  have g2 := s2 _ _ _ hg
  have A2 := hA.keep (Keeps.of s2)
  obtain ⟨l0, l1, l2, l3, l4⟩ := In.loads (E := E) g2
  have s02 := stays_trans hs s2
  have hsh := ho.short
  simp only [fa_24_3, fa_24_1, fa_24_2, Nat.zero_add, oS, l3, hA.len, bin_lss]
  rw [condW_bool]
  refine ⟨fun hlt => ?_, fun hge => ?_⟩
  · have hlt : i < x.arms.length := by have := of_decide_eq_true hlt; omega
    obtain ⟨y, hy⟩ : ∃ y, y = x.arms[i] := ⟨_, rfl⟩
    obtain ⟨hy1, hy2⟩ := ho.arms y (by rw [hy]; exact List.getElem_mem _)
    have hyj : x.arms[i]? = some y := by rw [hy]; exact List.getElem?_eq_getElem hlt
    obtain ⟨o, q, e1, e2, e3, e4⟩ := A2.at hyj
    have e3 : loadV Try.prog E H2 2 (.ptr o q) = some (.int .i64 y.1) := by rw [ld_2, e3]
    simp only [l1, oS, cv_2_5, e1, fa_49_0, Nat.add_zero, e3, true_and, and_true]
    rw [List.drop_eq_getElem_cons hlt, List.all_cons, ← hy, armOk_is] at hall
    refine (fitsR_ok hy1).use ?_
    rintro v H3 ⟨rfl, rfl⟩ _ _
    simp only [un_not, oS, true_and]
    by_cases hf : fitLo (IntKind.u8.wrap x.a) ≤ y.1 ∧ y.1 ≤ fitHi (IntKind.u8.wrap x.a)
    · rw [dT hf] at hall
      simp only [dT hf, Bool.not_true, wB, bff, vT, oS, gT]
      refine (leap_ok F2).use ?_
      rintro v H4 ⟨rfl, s4⟩ F4 n4
      have g4 := s4 _ _ _ g2
      obtain ⟨m0, m1, m2, m3, m4⟩ := In.loads (E := E) g4
      obtain ⟨o', q', e1', _, _, e4'⟩ := (A2.keep (Keeps.of s4)).at hyj
      have ee : AV.ptr o' q' = AV.ptr o q := by rw [e1] at e1'; exact (Option.some.inj e1').symm
      cases ee
      have e4' : loadV Try.prog E H4 3 (.ptr o (q + 1)) = some (.int .i64 y.2) := by rw [ld_3, e4']
      have e4 : loadV Try.prog E H3 3 (.ptr o (q + 1)) = some (.int .i64 y.2) := by rw [ld_3, e4]
      simp only [vT, oS, fa_24_3, Nat.zero_add, m3, l3, e1, fa_49_1, e4', e4, true_and, and_true, gT]
      refine (within_ok F4).use ?_
      rintro v H5 ⟨rfl, s5⟩ F5 n5
      simp only [vT, oS, un_not, pB, Bool.false_eq_true, if_false, true_and]
      cases hm : fLeap.may y.2 with
      | false =>
        simp only [Bool.not_false, cT]
        rw [hm] at hall
        refine ⟨?_, stays_trans s02 (stays_trans s4 s5)⟩
        rw [hS, hall]
        simp only [Bool.and_false, Bool.false_and, Bool.and_self]
      | true =>
        rw [hm] at hall
        simp only [Bool.not_true, cF, bin_add, oS]
        rw [wrap_i64 (by omega) (by omega)]
        exact ⟨n - 1, by omega, rfl, rfl, i + 1, by simp, by omega, F5, stays_trans s2 (stays_trans s4 s5), by rw [hall]; simp only [Bool.true_and]⟩
    · rw [dF hf] at hall
      simp only [dF hf, Bool.not_false, wB, btf, vF, oS, gF, wU, pB, if_true, true_and, and_true, cT]
      refine ⟨?_, s02⟩
      rw [hS, hall]
      simp only [Bool.false_and, Bool.and_false]
  · have hge : ¬ (i : Int) < x.arms.length := of_decide_eq_false hge
    rw [List.drop_eq_nil_of_le (by omega), List.all_nil] at hall
    simp only [true_and, bin_leq, oS]
    by_cases hl : (x.arms.length : Int) ≤ 65535
    · simp only [dT hl, wB, btt, gT, vT, oS]
      refine (leap_ok F2).use ?_
      rintro v H4 ⟨rfl, s4⟩ F4 n4
      have g4 := s4 _ _ _ g2
      obtain ⟨m0, m1, m2, m3, m4⟩ := In.loads (E := E) g4
      simp only [fa_24_2, Nat.zero_add, m2, l2, oS, true_and, and_true]
      refine (within_ok F4).use ?_
      rintro v H5 ⟨rfl, s5⟩ F5 n5
      simp only [pB, if_true, oS, true_and]
      refine ⟨?_, stays_trans s02 (stays_trans s4 s5)⟩
      rw [hS, hall, dT (show x.arms.length ≤ 65535 by omega)]
      simp only [Bool.true_and]
      rfl
    · simp only [dF hl, wB, bft, gF, vF, oS, pB, Bool.false_eq_true, if_false, true_and, and_true]
      refine ⟨?_, s02⟩
      rw [hS, dF (show ¬ x.arms.length ≤ 65535 by omega)]
      simp only [Bool.false_and]

theorem is_ok (F : Fine H) {x : In} (ho : x.Ok) (ha : ArmsAt E All H x.av x.arms) : FnX Try.prog E w0 37 [.agg x.cells] H fun v H' => v = .bool (isS x) ∧ Stays H H' := by
  refine V37_ok ?_
  unfold V37
  have hcl : AV.cells (.agg x.cells) = x.cells := rfl
  obtain ⟨a1, a2, a3, F1⟩ := F.newCells x.cells
  rw [wW, hcl]
  generalize hH1 : newCells H x.cells = H1 at *
  simp only [fa_24_0, fa_24_1, fa_24_2, fa_24_3, oS, Nat.add_zero, Nat.zero_add, (In.loads (E := E) a1).1]
  refine (parts_ok F1).use ?_
  rintro v2 H2 ⟨lv, rfl, pl, s2⟩ F2 n2
  simp only [ex0, ex1, oS, un_not]
  have g2 := s2 _ _ _ a1
  have s02 := stays_trans a2 s2
  have A2 : ArmsAt E All H2 x.av x.arms := ha.keep (Keeps.of s02)
  cases hlay : lay x.op with
  | none =>
    have hS : isS x = false := by unfold isS; rw [hlay]; rfl
    rw [hS]
    simp only [Option.isSome_none, Bool.not_false, wB, btf, vF, oS, wU, gF, pB, if_true, true_and, and_true, cT]
    exact s02
  | some l =>
    rw [hlay] at pl
    have hll : l.length ≤ 2 := by have := lay_length (op := x.op); rw [hlay] at this; exact this
    simp only [Option.getD_some] at pl
    simp only [Option.isSome_some, Bool.not_true, wB, bff, vT, oS]
    have hS : isS x = (fldOk x 0 l && if x.op = 49 then decide (x.arms.length ≤ 65535) && x.arms.all (armOk (IntKind.u8.wrap x.a)) && decide (0 ≤ x.b ∧ x.b ≤ 4294967295)
        else decide (x.arms.length = 0) && (decide (2 ≤ l.length) || decide (x.b = 0)) && (decide (1 ≤ l.length) || decide (x.a = 0))) := by
      unfold isS; rw [hlay]; simp only [Option.isSome_some, Bool.true_and, Option.getD_some]
    match l, hll with
    | [], _ =>
      have len : ∀ H2, lenV Try.prog H2 69 lv = some (.int .i64 0) := fun H2 => pl.len H2
      have d1 : decide ((0 : Int) > 0) = false := rfl
      have d2 : decide ((0 : Int) > 1) = false := rfl
      have d3 : decide ((0 : Int) < 2) = true := rfl
      have d4 : ((0 : Int) == 0) = true := rfl
      simp only [len, d1, d4, oS, wB, btt, btf, bft, bff, vT, vF, wU, gT, gF, pB, if_true, Bool.false_eq_true, if_false, true_and, and_true, un_not, bin_gtr, bin_lss, eqv_3, (In.loads (E := E) g2).2.1, nev_2]
      by_cases ha0 : x.a = 0
      · have hb : (x.a != 0) = false := by rw [ha0]; rfl
        have hS : isS x = (if x.op = 49 then decide (x.arms.length ≤ 65535) && x.arms.all (armOk (IntKind.u8.wrap x.a)) && decide (0 ≤ x.b ∧ x.b ≤ 4294967295) else decide (x.arms.length = 0) && decide (x.b = 0)) := by
          rw [hS, dT ha0]
          simp [fldOk]
        simp only [hb, cF]
        rw [(In.loads (E := E) g2).1, oS, eqv_5, oS, condW_bool]
        refine ⟨fun h49 => ?_, fun h49 => ?_⟩
        · have h49 : x.op = 49 := by simpa using h49
          rw [if_pos h49] at hS
          exact isLoop ho F2 g2 A2 s02 hS
        have h49 : ¬ x.op = 49 := by simpa using h49
        rw [if_neg h49] at hS
        rw [(In.loads (E := E) g2).2.2.2.1, oS, A2.len, oS, bin_gtr, oS]
        by_cases c1 : (x.arms.length : Int) > 0
        · simp only [dT c1, cT]
          refine ⟨?_, s02⟩
          rw [hS, dF (show ¬ x.arms.length = 0 by omega)]
          simp only [Bool.false_and]
        simp only [dF c1, cF]
        rw [dT (show x.arms.length = 0 by omega)] at hS
        simp only [len, d2, d3, oS, wB, btt, btf, bft, bff, vT, vF, wU, gT, gF, pB, if_true, Bool.false_eq_true, if_false, true_and, and_true, un_not, bin_gtr, bin_lss, (In.loads (E := E) g2).2.2.1, eqv_2]
        refine ⟨?_, s02⟩
        rw [hS, Bool.true_and]
        congr 1

      · have hb : (x.a != 0) = true := by simpa using ha0
        simp only [hb, cT]
        refine ⟨?_, s02⟩
        rw [hS, dF ha0]
        by_cases h49 : x.op = 49
        · rw [h49] at hlay; exact absurd hlay (by decide)
        · rw [if_neg h49]
          simp [fldOk]
    | [f0], _ =>
      have len : ∀ H2, lenV Try.prog H2 69 lv = some (.int .i64 1) := fun H2 => pl.len H2
      have d1 : decide ((1 : Int) > 0) = true := rfl
      have d2 : decide ((1 : Int) > 1) = false := rfl
      have d3 : decide ((1 : Int) < 2) = true := rfl
      have d4 : ((1 : Int) == 0) = false := rfl
      obtain ⟨k0, i0, e1, e2, e3⟩ := pl.at (E := E) (j := 0) (f := f0) rfl
      have e1 : indexAtA Try.prog 69 lv (.int .i64 0) = some (.ptr (.new k0) i0) := e1
      simp only [len, d1, oS, wB, btt, btf, bft, bff, vT, vF, wU, gT, gF, pB, if_true, Bool.false_eq_true, if_false, true_and, and_true, un_not, bin_gtr, bin_lss, e1, e2, (In.loads (E := E) g2).2.1]
      refine (within_ok F2).use ?_
      rintro v3 H3 ⟨rfl, s3⟩ F3 n3
      have g3 := s3 _ _ _ g2
      have s03 := stays_trans s02 s3
      have A3 := A2.keep (Keeps.of s3)
      cases hm : f0.may x.a with
      | false =>
        simp only [Bool.not_false, oS, wB, btt, btf, bft, bff, vT, vF, wU, gT, gF, pB, if_true, Bool.false_eq_true, if_false, true_and, and_true, un_not, bin_gtr, bin_lss, cT]
        refine ⟨?_, s03⟩
        rw [hS]
        have : x.num 0 = x.a := rfl
        simp only [fldOk, this, hm, Bool.false_and]
      | true =>
        have hS : isS x = (if x.op = 49 then decide (x.arms.length ≤ 65535) && x.arms.all (armOk (IntKind.u8.wrap x.a)) && decide (0 ≤ x.b ∧ x.b ≤ 4294967295) else decide (x.arms.length = 0) && decide (x.b = 0)) := by
          have h0 : x.num 0 = x.a := rfl
          have h1 : x.num 1 = x.b := rfl
          rw [hS]
          by_cases h49 : x.op = 49
          · simp [fldOk, h0, hm, h49]
          · simp [fldOk, h0, h1, hm, h49]
        simp only [Bool.not_true, len, d4, oS, wB, btt, btf, bft, bff, vT, vF, wU, gT, gF, pB, if_true, Bool.false_eq_true, if_false, true_and, and_true, un_not, bin_gtr, bin_lss, eqv_3, cF]
        rw [(In.loads (E := E) g3).1, oS, eqv_5, oS, condW_bool]
        refine ⟨fun h49 => ?_, fun h49 => ?_⟩
        · have h49 : x.op = 49 := by simpa using h49
          rw [if_pos h49] at hS
          exact isLoop ho F3 g3 A3 s03 hS
        have h49 : ¬ x.op = 49 := by simpa using h49
        rw [if_neg h49] at hS
        rw [(In.loads (E := E) g3).2.2.2.1, oS, A3.len, oS, bin_gtr, oS]
        by_cases c1 : (x.arms.length : Int) > 0
        · simp only [dT c1, cT]
          refine ⟨?_, s03⟩
          rw [hS, dF (show ¬ x.arms.length = 0 by omega)]
          simp only [Bool.false_and]
        simp only [dF c1, cF]
        rw [dT (show x.arms.length = 0 by omega)] at hS
        simp only [len, d2, d3, oS, wB, btt, btf, bft, bff, vT, vF, wU, gT, gF, pB, if_true, Bool.false_eq_true, if_false, true_and, and_true, un_not, bin_gtr, bin_lss, (In.loads (E := E) g3).2.2.1, eqv_2]
        refine ⟨?_, s03⟩
        rw [hS, Bool.true_and]
        congr 1

    | [f0, f1], _ =>
      have len : ∀ H2, lenV Try.prog H2 69 lv = some (.int .i64 2) := fun H2 => pl.len H2
      have d1 : decide ((2 : Int) > 0) = true := rfl
      have d2 : decide ((2 : Int) > 1) = true := rfl
      have d3 : decide ((2 : Int) < 2) = false := rfl
      have d4 : ((2 : Int) == 0) = false := rfl
      obtain ⟨k0, i0, e1, e2, e3⟩ := pl.at (E := E) (j := 0) (f := f0) rfl
      have e1 : indexAtA Try.prog 69 lv (.int .i64 0) = some (.ptr (.new k0) i0) := e1
      simp only [len, d1, oS, wB, btt, btf, bft, bff, vT, vF, wU, gT, gF, pB, if_true, Bool.false_eq_true, if_false, true_and, and_true, un_not, bin_gtr, bin_lss, e1, e2, (In.loads (E := E) g2).2.1]
      refine (within_ok F2).use ?_
      rintro v3 H3 ⟨rfl, s3⟩ F3 n3
      have g3 := s3 _ _ _ g2
      have s03 := stays_trans s02 s3
      have A3 := A2.keep (Keeps.of s3)
      cases hm : f0.may x.a with
      | false =>
        simp only [Bool.not_false, oS, wB, btt, btf, bft, bff, vT, vF, wU, gT, gF, pB, if_true, Bool.false_eq_true, if_false, true_and, and_true, un_not, bin_gtr, bin_lss, cT]
        refine ⟨?_, s03⟩
        rw [hS]
        have : x.num 0 = x.a := rfl
        simp only [fldOk, this, hm, Bool.false_and]
      | true =>
        have hS : isS x = (if x.op = 49 then decide (x.arms.length ≤ 65535) && x.arms.all (armOk (IntKind.u8.wrap x.a)) && decide (0 ≤ x.b ∧ x.b ≤ 4294967295) else decide (x.arms.length = 0) && f1.may x.b) := by
          have h0 : x.num 0 = x.a := rfl
          have h1 : x.num 1 = x.b := rfl
          rw [hS]
          by_cases h49 : x.op = 49
          · rw [h49] at hlay; exact absurd hlay (by intro e; simp [lay_switch] at e)
          · simp [fldOk, h0, h1, hm, h49, Bool.and_comm]
        simp only [Bool.not_true, len, d4, oS, wB, btt, btf, bft, bff, vT, vF, wU, gT, gF, pB, if_true, Bool.false_eq_true, if_false, true_and, and_true, un_not, bin_gtr, bin_lss, eqv_3, cF]
        rw [(In.loads (E := E) g3).1, oS, eqv_5, oS, condW_bool]
        refine ⟨fun h49 => ?_, fun h49 => ?_⟩
        · have h49 : x.op = 49 := by simpa using h49
          rw [if_pos h49] at hS
          exact isLoop ho F3 g3 A3 s03 hS
        have h49 : ¬ x.op = 49 := by simpa using h49
        rw [if_neg h49] at hS
        rw [(In.loads (E := E) g3).2.2.2.1, oS, A3.len, oS, bin_gtr, oS]
        by_cases c1 : (x.arms.length : Int) > 0
        · simp only [dT c1, cT]
          refine ⟨?_, s03⟩
          rw [hS, dF (show ¬ x.arms.length = 0 by omega)]
          simp only [Bool.false_and]
        simp only [dF c1, cF]
        rw [dT (show x.arms.length = 0 by omega)] at hS
        obtain ⟨k1, i1, e1, e2, e3⟩ := (pl.keep (Keeps.of s3)).at (E := E) (j := 1) (f := f1) rfl
        have e1 : indexAtA Try.prog 69 lv (.int .i64 1) = some (.ptr (.new k1) i1) := e1
        simp only [len, d2, oS, wB, btt, btf, bft, bff, vT, vF, wU, gT, gF, pB, if_true, Bool.false_eq_true, if_false, true_and, and_true, un_not, bin_gtr, bin_lss, e1, e2, (In.loads (E := E) g3).2.2.1]
        refine (within_ok F3).use ?_
        rintro v8 H8 ⟨rfl, s8⟩ F8 n8
        cases hm1 : f1.may x.b with
        | true =>
          rw [hm1] at hS
          simp only [oS, wB, btt, btf, bft, bff, vT, vF, wU, gT, gF, pB, if_true, Bool.false_eq_true, if_false, true_and, and_true, un_not, bin_gtr, bin_lss]
          refine ⟨?_, stays_trans s03 s8⟩
          rw [hS]
          simp only [Bool.true_and, Bool.and_true, Bool.true_or]
        | false =>
          rw [hm1] at hS
          simp only [len, d3, oS, wB, btt, btf, bft, bff, vT, vF, wU, gT, gF, pB, if_true, Bool.false_eq_true, if_false, true_and, and_true, un_not, bin_gtr, bin_lss]
          refine ⟨?_, stays_trans s03 s8⟩
          rw [hS]
          rfl

    | _ :: _ :: _ :: _, h => exact absurd h (by simp)
end
end Go.Proofs.Ytcboaonbfgjmgaa.op
