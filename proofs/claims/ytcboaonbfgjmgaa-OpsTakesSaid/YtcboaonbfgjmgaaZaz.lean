/-
  Texts Ch Ci Dm, as far as they are used.
-/
import Derived.Test.YtcboaonbfgjmgaaZay
import Derived.Test.YtcboaonbfgjmgaaZav
section
open Go.Proofs Go Go.Am Go.Op
namespace Go.Proofs.Ytcboaonbfgjmgaa.d
set_option linter.unusedVariables false
set_option linter.unusedSimpArgs false
set_option maxRecDepth 100000
/-- The lowest bits, the topmost of them being the sign. -/
def outS (U b : Nat) : Nat := U % 2 ^ b + (U / 2 ^ (b - 1)) % 2 * (2 ^ 64 - 2 ^ b)
theorem bits_nat (w : Int) : ∃ b : Nat, bitsS w = (b : Int) ∧ (b = 0 ∨ b = 8 ∨ b = 32 ∨ b = 64) := by
  unfold bitsS
  split
  · exact ⟨8, rfl, by omega⟩
  split
  · exact ⟨32, rfl, by omega⟩
  split
  · exact ⟨64, rfl, by omega⟩
  · exact ⟨0, rfl, by omega⟩
theorem mod_succ_pow (U i : Nat) : U % 2 ^ i + U / 2 ^ i % 2 * 2 ^ i = U % 2 ^ (i + 1) := by
  rw [Nat.pow_succ, Nat.mod_mul, Nat.mul_comm (2 ^ i)]
theorem out_is {w n : Int} (hn : I64 n) (hw : 0 < bitsS w) : IntKind.i64.wrap (outS (n % 18446744073709551616).toNat (bitsS w).toNat : Nat) = wrapS w n := by
  obtain ⟨h0, h1⟩ := hn
  have iw : ∀ z : Int, IntKind.i64.wrap z = if 9223372036854775808 ≤ z % 18446744073709551616 then z % 18446744073709551616 - 18446744073709551616 else z % 18446744073709551616 := by
    intro z
    simp only [IntKind.wrap, IntKind.bits, IntKind.signed]; simp
  unfold wrapS
  unfold bitsS at hw ⊢
  by_cases w1 : w = 1
  · simp only [if_pos w1]
    have hw8 : IntKind.i64.wrap (if 128 ≤ n % 256 then n % 256 - 256 else n % 256) = if 128 ≤ n % 256 then n % 256 - 256 else n % 256 := wrap_i64 (by split <;> omega) (by split <;> omega)
    rw [i8_wrap, hw8, iw]
    simp only [outS, show (8 : Int).toNat = 8 from rfl]
    split <;> split <;> omega
  simp only [if_neg w1] at hw ⊢
  by_cases w2 : w = 2
  · simp only [if_pos w2]
    have hw8 : IntKind.i64.wrap (if 2147483648 ≤ n % 4294967296 then n % 4294967296 - 4294967296 else n % 4294967296) = if 2147483648 ≤ n % 4294967296 then n % 4294967296 - 4294967296 else n % 4294967296 := wrap_i64 (by split <;> omega) (by split <;> omega)
    rw [i32_wrap, hw8, iw]
    simp only [outS, show (32 : Int).toNat = 32 from rfl]
    split <;> split <;> omega
  simp only [if_neg w2] at hw ⊢
  by_cases w3 : w = 3
  · simp only [if_pos w3]
    rw [iw]
    simp only [outS, show (64 : Int).toNat = 64 from rfl]
    split <;> omega
  simp only [if_neg w3] at hw
  omega
section
variable {E : Env} {w0 : World} {x : Bool} {S : DSt}
theorem ref02_Bits_ok {w : Int} : Pure Try.prog E w0 f_ref02_Bits [.int .u8 w] (.int .i64 (bitsS w)) := fun x S => by
  refine V_ref02_Bits_ok ?_
  unfold V_ref02_Bits bitsS
  simp only [biEq, oD, cdB, beq_iff_eq, beq_eq_false_iff_ne, ne_eq]
  refine ⟨fun h => ?_, fun h1 => ⟨fun h => ?_, fun h2 => ⟨fun h => ?_, fun h3 => ?_⟩⟩⟩ <;> simp only [*, if_true, if_false] <;> exact FinD.pure
theorem ref02_Wrap_ok {w n : Int} (hw : 0 < bitsS w) : Pure Try.prog E w0 f_ref02_Wrap [.int .u8 w, .int .i64 n] (.int .i64 (IntKind.i64.wrap (outS (n % 18446744073709551616).toNat (bitsS w).toNat : Nat))) := fun x S => by
  refine V_ref02_Wrap_ok ?_
  unfold V_ref02_Wrap
  refine ref02_Bits_ok.use ?_
  obtain ⟨b, hb, hbc⟩ := bits_nat w
  rw [hb] at hw ⊢
  rw [Int.toNat_natCast]
  obtain ⟨U, hU⟩ : ∃ U, U = (n % 18446744073709551616).toNat := ⟨_, rfl⟩
  have hUl : U < 2 ^ 64 := by omega
  rw [← hU]
  have hu : IntKind.u64.wrap n = (U : Int) := by rw [u64_cast, hU]
  have hb64 : b ≤ 64 := by omega
  have pow_le : ∀ {x y : Nat}, x ≤ y → 2 ^ x ≤ 2 ^ y := fun h => Nat.pow_le_pow_right (by decide) h
  refine loop_ref02_Wrap_0 (I := fun m t1 t5 t6 t7 S' => t1 = .int .i64 n ∧ t5 = .int .i64 (b : Int) ∧ S' = S ∧ ∃ i : Nat, t7 = .int .i64 (i : Int) ∧ i + m = b ∧ t6 = .int .u64 ((U % 2 ^ i : Nat) : Int)) ?_ (n := b)
    ⟨rfl, rfl, rfl, 0, rfl, by omega, by simp [Nat.mod_one]⟩
  rintro m _ _ _ _ S3 ⟨rfl, rfl, rfl, i, rfl, hi, rfl⟩
  unfold B_ref02_Wrap_0
  rw [biLt, oD, cdI]
  refine ⟨fun hlt => ?_, fun hge => ?_⟩
  · have hlt : i < b := by omega
    have h1 : U % 2 ^ i < 2 ^ i := Nat.mod_lt _ (Nat.pow_pos (by decide))
    have h2 : U % 2 ^ (i + 1) < 2 ^ (i + 1) := Nat.mod_lt _ (Nat.pow_pos (by decide))
    have h3 := pow_le (show i + 1 ≤ 64 by omega)
    have h4 := mod_succ_pow U i
    have h5 : U / 2 ^ i % 2 * 2 ^ i < 2 ^ 64 := by omega
    rw [cvI, oD, hu, shr_nat (by omega), oD, and_nat, oD, shl_nat (by omega) h5, oD, or_nat (by have := pow_le (show i ≤ 64 by omega); omega) h5, oD, or_add h1, h4, biAdd, oD, wrap_i64 (by omega) (by omega)]
    exact ⟨m - 1, by omega, rfl, rfl, rfl, i + 1, by simp, by omega, rfl⟩
  · obtain rfl : i = b := by omega
    obtain ⟨s, hs⟩ : ∃ s, s = U / 2 ^ (i - 1) % 2 := ⟨_, rfl⟩
    have hs2 : s < 2 := by rw [hs]; exact Nat.mod_lt _ (by decide)
    have hpow : 2 ^ i ≤ 2 ^ 64 := pow_le hb64
    refine loop_ref02_Wrap_1 (I := fun m t1 t5 t6 t8 S2 => t1 = .int .i64 n ∧ t5 = .int .i64 (i : Int) ∧ S2 = S3 ∧ ∃ j : Nat, t8 = .int .i64 (j : Int) ∧ j + m = 64 ∧ i ≤ j ∧ t6 = .int .u64 ((U % 2 ^ i + s * (2 ^ j - 2 ^ i) : Nat) : Int)) ?_ (n := 64 - i)
      ⟨rfl, rfl, rfl, i, rfl, by omega, Nat.le_refl _, by simp⟩
    rintro m _ _ _ _ _ ⟨rfl, rfl, rfl, j, rfl, hj, hij, rfl⟩
    unfold B_ref02_Wrap_1
    have c0 : decide ((i : Int) > 0) = true := decide_eq_true (by omega)
    simp only [biGt, oD, c0, wdB, beq_self_eq_true, vdT, biLt, pdB, if_true]
    rw [cdI]
    have h1 : U % 2 ^ i < 2 ^ i := Nat.mod_lt _ (Nat.pow_pos (by decide))
    have hp := pow_le hij
    refine ⟨fun hlt => ?_, fun hge => ?_⟩
    · have hlt : j < 64 := by omega
      have hp1 := pow_le (show j + 1 ≤ 64 by omega)
      have hp2 : 2 ^ (j + 1) = 2 ^ j * 2 := Nat.pow_succ ..
      have hm : s * (2 ^ j - 2 ^ i) ≤ 2 ^ j - 2 ^ i ∧ s * 2 ^ j ≤ 2 ^ j ∧ s * (2 ^ (j + 1) - 2 ^ i) = s * (2 ^ j - 2 ^ i) + s * 2 ^ j := by
        have : s = 0 ∨ s = 1 := by omega
        rcases this with h | h <;> rw [h] <;> omega
      obtain ⟨m1, m2, m3⟩ := hm
      have e1 : IntKind.i64.wrap ((i : Int) - 1) = ((i - 1 : Nat) : Int) := by rw [wrap_i64 (by omega) (by omega)]; omega
      have q1 : s * 2 ^ j < 2 ^ 64 := by omega
      have q2 : U % 2 ^ i + s * (2 ^ j - 2 ^ i) < 2 ^ 64 := by omega
      have q3 : U % 2 ^ i + s * (2 ^ j - 2 ^ i) < 2 ^ j := by omega
      rw [cvI, oD, hu, biSub, oD, e1, shr_nat (by omega), oD, and_nat, oD, ← hs, shl_nat (show j ≤ 64 by omega) q1, oD, or_nat q2 q1, oD, or_add q3, biAdd, oD, wrap_i64 (by omega) (by omega)]
      exact ⟨m - 1, by omega, by trivial, by trivial, by trivial, j + 1, by simp, by omega, by omega, by rw [m3, Nat.add_assoc]⟩
    · obtain rfl : j = 64 := by omega
      rw [cvI, oD]
      unfold outS
      rw [← hs]
      exact FinD.pure
theorem ref02_Fits_ok {w n : Int} (hn : I64 n) : Pure Try.prog E w0 f_ref02_Fits [.int .u8 w, .int .i64 n] (.bool (decide (fitLo w ≤ n ∧ n ≤ fitHi w))) := fun x S => by
  refine V_ref02_Fits_ok ?_
  unfold V_ref02_Fits
  refine ref02_Bits_ok.use ?_
  have hi := fits_iff (w := w) hn
  by_cases hb : bitsS w > 0
  · simp [hb]
    refine (ref02_Wrap_ok hb).use ?_
    rw [out_is hn hb]
    have e : (wrapS w n == n) = decide (fitLo w ≤ n ∧ n ≤ fitHi w) := by
      by_cases hw : wrapS w n = n
      · rw [decide_eq_true (hi.1 ⟨hb, hw⟩), hw]; simp
      · rw [decide_eq_false (fun h => hw (hi.2 h).2)]; simpa using hw
    simp [e]
    exact FinD.pure
  · have e : decide (fitLo w ≤ n ∧ n ≤ fitHi w) = false := decide_eq_false fun h => hb (hi.2 h).1
    rw [e]
    simp [hb]
    exact FinD.pure
end
end Go.Proofs.Ytcboaonbfgjmgaa.d
end

section
open Go.Proofs Go Go.Am Go.Op
namespace Go.Proofs.Ytcboaonbfgjmgaa.d
set_option linter.unusedVariables false
set_option linter.unusedSimpArgs false
set_option maxRecDepth 100000
@[simp] theorem idx0 (row : List D) (rows : List (List D)) (sz : Nat) : idxSl sz (.lst (row :: rows) sz) (.int .i64 0) = some (.elt row 0) := idxL (i := 0) rfl
@[simp] theorem idx1 (a row : List D) (rows : List (List D)) (sz : Nat) : idxSl sz (.lst (a :: row :: rows) sz) (.int .i64 1) = some (.elt row 0) := idxL (i := 1) rfl
@[simp] theorem ldPar (S : DSt) (f : Fld) : loadAg S 4 (.elt (parR f) 0) = some (.agg (parR f)) := (rfl)
theorem beqD (a b : Int) : (a == b) = decide (a = b) := by by_cases h : a = b <;> simp [h]
section
variable {E : Env} {w0 : World} {x : Bool} {S : DSt} {y : In}
theorem is_loop {S0 : DSt} {k0 : Nat} {a0 : List AV} (n0 : S0 k0 = none) (ho : y.Ok) : CodeD Try.prog E w0 x (.loop L_ref12_is_0) (mkRow 105 [1, 5] [.ptr k0 0, (.int .i64 0)]) (S0.set k0 ⟨4, [inC y], a0⟩)
    (K_ref12_is_0 E w0 x (FinD E fun d' S' => d' = .bool (decide (y.arms.length ≤ 65535) && y.arms.all (armOk (IntKind.u8.wrap y.a)) && fLeap.may y.b) ∧ S' = S0)) := by
  have l0 : ∀ i, loadSc (S0.set k0 ⟨4, [inC y], a0⟩) (.ptr k0 i) = (inC y)[i]? := fun i => ldP (DSt.set_same _ _ _)
  have l1 : loadSc (S0.set k0 ⟨4, [inC y], a0⟩) (.ptr k0 1) = some (.int .i64 y.a) := l0 1
  have l2 : loadSc (S0.set k0 ⟨4, [inC y], a0⟩) (.ptr k0 2) = some (.int .i64 y.b) := l0 2
  have l3 : loadSc (S0.set k0 ⟨4, [inC y], a0⟩) (.ptr k0 3) = some (armD y.arms) := l0 3
  have hsh := ho.short
  refine loop_ref12_is_0 (I := fun n x1 x5 S' => ∃ j : Nat, j + n = y.arms.length ∧ x1 = .ptr k0 0 ∧ x5 = .int .i64 (j : Int) ∧ S' = S0.set k0 ⟨4, [inC y], a0⟩ ∧ (y.arms.take j).all (armOk (IntKind.u8.wrap y.a)) = true) ?_ (n := y.arms.length)
    ⟨0, by omega, rfl, rfl, rfl, by simp⟩
  rintro n _ _ _ ⟨j, hj, rfl, rfl, rfl, hall⟩
  unfold B_ref12_is_0
  simp only [ofP, oD, Nat.zero_add, l3, armD_len, biLt]
  rw [cdI]
  refine ⟨fun hlt => ?_, fun hge => ?_⟩
  · have hlt : j < y.arms.length := by omega
    obtain ⟨z, hz⟩ : ∃ z, z = y.arms[j] := ⟨_, rfl⟩
    have hjz : y.arms[j]? = some z := by rw [List.getElem?_eq_getElem hlt, hz]
    obtain ⟨hz1, hz2⟩ := ho.arms z (by rw [hz]; exact List.getElem_mem _)
    simp only [l1, oD, cvI, armD_at hjz, ofE, lsE, show (armR z)[0 + 0]? = some (.int .i64 z.1) from rfl, show (armR z)[0]? = some (.int .i64 z.1) from rfl]
    refine ⟨by trivial, by trivial, by trivial, (ref02_Fits_ok hz1).useX ⟨by trivial, ?_⟩⟩
    rw [unN, oD, wdB]
    have hbad : armOk (IntKind.u8.wrap y.a) z = false → FinD E (fun d' S' => d' = D.bool (decide (y.arms.length ≤ 65535) && y.arms.all (armOk (IntKind.u8.wrap y.a)) && fLeap.may y.b) ∧ S' = S0) (.bool false) (S0.set k0 ⟨4, [inC y], a0⟩) := fun h => by
      have : y.arms.all (armOk (IntKind.u8.wrap y.a)) = false := by
        rw [List.all_eq_false]
        exact ⟨z, by rw [hz]; exact List.getElem_mem _, by simp [h]⟩
      rw [this, Bool.and_false, Bool.false_and]
      exact FinD.drop n0 FinD.pure
    by_cases hf : fitLo (IntKind.u8.wrap y.a) ≤ z.1 ∧ z.1 ≤ fitHi (IntKind.u8.wrap y.a)
    · simp only [hf, and_self, decide_true, Bool.not_true, beq_self_eq_true, gdT, vdT, oD, orAny]
      refine ref12_leap_ok.useX ⟨by trivial, ?_⟩
      simp only [l3, oD, orAny, fwP, armD_at hjz, ofE, lsE, show (armR z)[0 + 1]? = some (.int .i64 z.2) from rfl, fwE]
      refine ⟨⟨⟨by simp, by trivial⟩, by trivial⟩, ⟨⟨by simp [armR], by trivial⟩, by trivial⟩, ref12_within_ok.useX ⟨by trivial, ?_⟩⟩
      simp only [unN, oD, pdB, Bool.false_eq_true, if_false]
      cases hm : fLeap.may z.2 with
      | true =>
        simp only [Bool.not_true, cdF]
        rw [biAdd, oD, wrap_i64 (by omega) (by omega)]
        refine ⟨n - 1, by omega, j + 1, by omega, by trivial, by trivial, by trivial, ?_⟩
        rw [List.take_add_one, hjz, Option.toList_some, List.all_append, hall, List.all_cons, List.all_nil, armOk_v, hm, Bool.and_true, Bool.and_true, Bool.true_and]
        unfold Fld.may Op.vF
        exact decide_eq_true hf
      | false =>
        simp only [Bool.not_false, cdT]
        exact hbad (by rw [armOk_v, hm, Bool.and_false])
    · simp only [hf, decide_false, Bool.not_false, show ((true == false) = false) from rfl, gdF, vdF, oD, pdB, if_true, cdT, orAny]
      refine ⟨by trivial, ?_⟩
      have hfw : ∀ S' : DSt, footW undefD S' S' = True := fun _ => rfl
      simp only [hfw]
      refine ⟨⟨⟨by simp, by trivial⟩, by trivial⟩, ⟨⟨by simp, by trivial⟩, by trivial⟩, by trivial, ?_⟩
      exact hbad (by rw [armOk_v]; unfold Fld.may Op.vF; rw [decide_eq_false hf]; rfl)
  · have hj' : j = y.arms.length := by omega
    subst hj'
    rw [List.take_length] at hall
    rw [hall]
    refine ⟨by trivial, by trivial, ?_⟩
    rw [biLe, oD]
    by_cases hle : y.arms.length ≤ 65535
    · have c : decide ((y.arms.length : Int) ≤ 65535) = true := decide_eq_true (by omega)
      have c' : decide (y.arms.length ≤ 65535) = true := decide_eq_true hle
      simp only [c, c', wdB, beq_self_eq_true, gdT, vdT, oD, orAny, ofP, Nat.zero_add]
      refine ref12_leap_ok.useX ⟨by trivial, ?_⟩
      simp only [l2, oD, fwP]
      refine ⟨⟨⟨by simp, by trivial⟩, by trivial⟩, ref12_within_ok.useX ⟨by trivial, ?_⟩⟩
      simp only [pdB, if_true, oD, Bool.true_and]
      exact FinD.drop n0 FinD.pure
    · have c : decide ((y.arms.length : Int) ≤ 65535) = false := decide_eq_false (by omega)
      have c' : decide (y.arms.length ≤ 65535) = false := decide_eq_false hle
      have hfw : ∀ S' : DSt, footW undefD S' S' = True := fun _ => rfl
      simp only [c, c', wdB, show ((false == true) = false) from rfl, gdF, vdF, oD, orAny, hfw, pdB, Bool.false_eq_true, if_false, Bool.false_and]
      refine ⟨by trivial, ⟨⟨by simp, by trivial⟩, by trivial⟩, by trivial, ?_⟩
      exact FinD.drop n0 FinD.pure
theorem ref12_is_ok (ho : y.Ok) : Pure Try.prog E w0 f_ref12_is [inD y] (.bool (isS y)) := fun x S => by
  refine V_ref12_is_ok ?_
  unfold V_ref12_is
  rw [inD, clA, oD]
  intro k0 a0 n0
  have l0 : ∀ i, loadSc (S.set k0 ⟨(inC y).length, [inC y], a0⟩) (.ptr k0 i) = (inC y)[i]? := fun i => ldP (DSt.set_same _ _ _)
  have z0 : loadSc (S.set k0 ⟨(inC y).length, [inC y], a0⟩) (.ptr k0 0) = some (.int .u8 y.op) := l0 0
  have l1 : loadSc (S.set k0 ⟨(inC y).length, [inC y], a0⟩) (.ptr k0 1) = some (.int .i64 y.a) := l0 1
  have l2 : loadSc (S.set k0 ⟨(inC y).length, [inC y], a0⟩) (.ptr k0 2) = some (.int .i64 y.b) := l0 2
  have l3 : loadSc (S.set k0 ⟨(inC y).length, [inC y], a0⟩) (.ptr k0 3) = some (armD y.arms) := l0 3
  have hloop := is_loop (E := E) (w0 := w0) (x := x) (y := y) (a0 := a0) n0 ho
  rw [ofP, oD, z0, oD]
  refine ref12_parts_ok.use ?_
  have fin : ∀ b : Bool, b = isS y → FinD E (fun d' S' => d' = D.bool (isS y) ∧ S' = S) (.bool b) (S.set k0 ⟨(inC y).length, [inC y], a0⟩) := fun b h => by rw [h]; exact FinD.drop n0 FinD.pure
  have hdef : isS y = ((lay y.op).isSome && fldOk y 0 ((lay y.op).getD []) &&
      if y.op = 49 then decide (y.arms.length ≤ 65535) && y.arms.all (armOk (IntKind.u8.wrap y.a)) && fLeap.may y.b
      else decide (y.arms.length = 0) && (decide (2 ≤ ((lay y.op).getD []).length) || decide (y.b = 0)) && (decide (1 ≤ ((lay y.op).getD []).length) || decide (y.a = 0))) := rfl
  have hl2 : ((lay y.op).getD []).length ≤ 2 := lay_length
  have h49l := @lay49
  cases hlay : lay y.op with
  | none =>
    rw [hlay] at hdef
    simp
    exact fin _ (by rw [hdef]; simp)
  | some l =>
    rw [hlay] at hdef hl2
    simp only [Option.isSome_some, Option.getD_some, Bool.true_and] at hdef hl2 ⊢
    have tail : ∀ b : Bool, fldOk y 0 l = b → True := fun _ _ => trivial
    match l, hl2, hdef, hlay with
    | [], _, hdef, hlay =>
      have h49 : ¬ y.op = 49 := fun e => by have := h49l hlay e; cases this
      have e49 : (y.op == 49) = false := by simp [h49]
      rw [if_neg h49] at hdef
      simp [l1, z0]
      by_cases ha : y.a = 0
      · simp [ha, z0, e49, l3, l2]
        by_cases hc : y.arms = []
        · simp [hc, l2]
          exact fin _ (by rw [hdef]; simp [ha, hc, fldOk, beqD])
        · have hp : 0 < y.arms.length := List.length_pos_iff.2 hc
          rw [decide_eq_true hp, cdT]
          exact fin _ (by rw [hdef]; simp [hc])
      · rw [show (y.a != 0) = true by simp [ha], cdT]
        exact fin _ (by rw [hdef]; simp [ha])
    | [f], _, hdef, hlay =>
      simp [l1]
      refine ref12_within_ok.useX ?_
      simp
      cases hm : f.may y.a with
      | false =>
        simp
        exact fin _ (by rw [hdef]; simp [fldOk, In.num, hm])
      | true =>
        simp [z0]
        by_cases h49 : y.op = 49
        · rw [if_pos h49] at hdef
          simp [h49]
          rw [hdef]
          simp only [fldOk, In.num, show ¬ (0 = 1) by decide, if_false, hm, Bool.true_and]
          exact hloop
        · rw [if_neg h49] at hdef
          have e49 : (y.op == 49) = false := by simp [h49]
          simp [e49, l3, l2]
          by_cases hc : y.arms = []
          · simp [hc, l2]
            exact fin _ (by rw [hdef]; simp [hc, fldOk, In.num, hm, beqD])
          · have hp : 0 < y.arms.length := List.length_pos_iff.2 hc
            rw [decide_eq_true hp, cdT]
            exact fin _ (by rw [hdef]; simp [hc])
    | [f, g], _, hdef, hlay =>
      have h49 : ¬ y.op = 49 := fun e => by have := h49l hlay e; cases this
      have e49 : (y.op == 49) = false := by simp [h49]
      rw [if_neg h49] at hdef
      simp [l1]
      refine ref12_within_ok.useX ?_
      simp
      cases hm : f.may y.a with
      | false =>
        simp
        exact fin _ (by rw [hdef]; simp [fldOk, In.num, hm])
      | true =>
        simp [z0, e49, l3, l2]
        by_cases hc : y.arms = []
        · simp [hc, l2]
          refine ref12_within_ok.useX ?_
          simp
          cases hm2 : g.may y.b with
          | true =>
            simp
            exact fin _ (by rw [hdef]; simp [hc, fldOk, In.num, hm, hm2])
          | false =>
            simp
            exact fin _ (by rw [hdef]; simp [hc, fldOk, In.num, hm, hm2])
        · have hp : 0 < y.arms.length := List.length_pos_iff.2 hc
          rw [decide_eq_true hp, cdT]
          exact fin _ (by rw [hdef]; simp [hc])
end
end Go.Proofs.Ytcboaonbfgjmgaa.d
end

section
namespace Go.Am
set_option linter.unusedVariables false
set_option linter.unusedSimpArgs false
def WkR : List (List D) → List (List D) → Prop
  | [], [] => True
  | r :: rs, q :: qs => (WkL r q ∧ r.length = q.length) ∧ WkR rs qs
  | _, _ => False
theorem WkR.length : ∀ {rs qs : List (List D)}, WkR rs qs → rs.length = qs.length
  | [], [], _ => rfl
  | r :: rs, q :: qs, h => by rw [List.length_cons, List.length_cons, WkR.length h.2]
  | [], _ :: _, h => h.elim
  | _ :: _, [], h => h.elim
theorem WkR.row : ∀ {rs qs : List (List D)} {sz : Nat}, WkR rs qs → (∀ r ∈ rs, r.length = sz) → ∀ q ∈ qs, q.length = sz
  | [], [], sz, _, _ => fun q hq => by cases hq
  | r :: rs, q :: qs, sz, h, hr => fun y hy => by
    rcases List.mem_cons.1 hy with e | hy
    · subst e; rw [← h.1.2]; exact hr r List.mem_cons_self
    · exact WkR.row h.2 (fun r hr' => hr r (List.mem_cons_of_mem _ hr')) y hy
  | [], _ :: _, _, h, _ => h.elim
  | _ :: _, [], _, h, _ => h.elim
theorem WkR.ok {E : Env} {R : Fz} : ∀ {rs qs : List (List D)} {vs : List AV}, WkR rs qs → RpLL E R rs vs → RpLL E R qs vs
  | [], [], vs, _, h => h
  | r :: rs, q :: qs, vs, w, h => by
    simp only [RpLL] at h ⊢
    obtain ⟨a, b, e, h1, h2⟩ := h
    exact ⟨a, b, e, w.1.1.ok h1, WkR.ok w.2 h2⟩
  | [], _ :: _, _, w, _ => w.elim
  | _ :: _, [], _, w, _ => w.elim
theorem Wk.lst {rs qs : List (List D)} (w : WkR rs qs) (sz : Nat) : Wk (.lst rs sz) (.lst qs sz) := fun E R v h => by
  simp only [Rp] at h ⊢
  rcases h with ⟨rfl, rfl⟩ | ⟨o, j, cap, ex, z, e1, e2, e3, e4, e5⟩
  · cases qs with
    | nil => exact .inl ⟨rfl, rfl⟩
    | cons => exact w.elim
  · refine .inr ⟨o, j, cap, ex, z, by rw [← w.length]; exact e1, e2, by rw [← w.length]; exact e3, w.row e4, ?_⟩
    rcases e5 with rfl | ⟨all, f1, f2, f3⟩
    · cases qs with
      | nil => exact .inl rfl
      | cons => exact w.elim
    · exact .inr ⟨all, f1, by rw [← w.length]; exact w.ok f2, by rw [← w.length]; exact f3⟩
theorem Wk.trans {a b c : D} (h : Wk a b) (h' : Wk b c) : Wk a c := fun E R v x => h' E R v (h E R v x)
theorem WkR.map {α : Type} {f g : α → List D} (h : ∀ a, WkL (f a) (g a) ∧ (f a).length = (g a).length) : ∀ (l : List α), WkR (l.map f) (l.map g)
  | [] => trivial
  | a :: l => ⟨h a, WkR.map h l⟩
/-- A list that is read: with more behind it, or not. -/
inductive Lst (rows : List (List D)) (sz : Nat) : D → Prop where
  | lst : Lst rows sz (.lst rows sz)
  | ext (more : List (List D)) : Lst rows sz (.ext rows more sz)
section
variable {rows : List (List D)} {sz : Nat} {d : D}
theorem Lst.len (h : Lst rows sz d) : lenSl d = some (.int .i64 rows.length) := by cases h <;> rfl
theorem Lst.at (h : Lst rows sz d) {i : Nat} {row : List D} (hr : rows[i]? = some row) : idxSl sz d (.int .i64 (i : Int)) = some (.elt row 0) := by
  cases h
  · exact idxL hr
  · exact idxE hr
theorem Lst.rowsS (h : Lst rows sz d) (S : DSt) : Am.rowsS S sz d = some rows := by
  cases h <;> simp [Am.rowsS, rowsOf]
theorem Lst.wk (h : Lst rows sz d) : Wk d (.lst rows sz) := by
  cases h
  · exact Wk.refl _
  · exact Wk.ext _ _ _
theorem Lst.cells (h : Lst rows sz d) : cellsD d = some [d] := by cases h <;> rfl
end
theorem bndN {n cap : Nat} (h : n ≤ cap) : boundD (.int .i64 (n : Int)) cap = some n := by
  simp only [boundD]
  rw [if_pos (by omega), Int.toNat_natCast]
theorem slcL {rows : List (List D)} {sz n : Nat} (h : n ≤ rows.length) : sliceSl sz (.lst rows sz) none (some (.int .i64 (n : Int))) none = some (extD (rows.take n) (rows.drop n) sz) := by
  simp only [sliceSl, boundsD, topD, highD, lowD, if_true, Option.bind_some, bndN h, Option.map_some, List.drop_zero, Nat.sub_zero]
  rw [List.take_of_length_le (l := rows.drop n) (by rw [List.length_drop]; omega)]
theorem slcE {rows more : List (List D)} {sz n : Nat} (h : n ≤ (rows ++ more).length) : sliceSl sz (.ext rows more sz) none (some (.int .i64 (n : Int))) none = some (extD ((rows ++ more).take n) ((rows ++ more).drop n) sz) := by
  simp only [sliceSl, boundsD, topD, highD, lowD, if_true, Option.bind_some, bndN h, Option.map_some, List.drop_zero, Nat.sub_zero]
  rw [List.take_of_length_le (l := (rows ++ more).drop n) (by rw [List.length_drop]; omega)]
theorem Grw.upd {S0 S : DSt} {t : D} {rows : List (List D)} {sz k : Nat} {o o' : DObj} (h : Grw S0 t rows sz S) (hk : S0 k = some o') : Grw (S0.set k o) t rows sz (S.set k o) := by
  rcases h with ⟨rfl, rfl, rfl⟩ | ⟨l, acs, h, rfl, rfl⟩
  · exact .inl ⟨rfl, rfl, rfl⟩
  · have hne : l ≠ k := fun e => by rw [e, hk] at h; cases h
    refine .inr ⟨l, acs, ?_, rfl, DSt.set_comm _ hne _ _⟩
    rw [DSt.set_ne _ _ _ hne]; exact h
/-- What grows no more. -/
theorem Grw.last {S0 S : DSt} {t : D} {rows : List (List D)} {sz bytes : Nat} (h : Grw S0 t rows sz S) {v : D} {news : List (List D)} (hv : rowsS S sz v = some news) (hn : news ≠ []) (hb : 0 < bytes ∧ (2 * (rows.length + news.length) + 768) * bytes ≤ 2 ^ 47) {K : D → DSt → Prop}
    (hK : K (.lst (rows ++ news) sz) S0) : appendD S sz bytes t v K := by
  simp only [appendD, hv]
  rcases h with ⟨rfl, rfl, rfl⟩ | ⟨k, acs, h, rfl, rfl⟩
  · simp only [growD]
    rw [if_neg hn]
    refine ⟨⟨hb.1, by simpa using hb.2⟩, .inl ?_⟩
    rw [List.take_of_length_le (Nat.le_refl _)]
    simpa using hK
  · simp only [growD]
    rw [if_neg hn, DSt.set_same]
    simp only
    rw [if_pos ⟨by trivial, by trivial, by omega⟩]
    refine ⟨hb, .inl ?_⟩
    rw [DSt.erase_set _ _ _ h, List.take_of_length_le (by simp)]
    simpa using hK
end Go.Am
end
