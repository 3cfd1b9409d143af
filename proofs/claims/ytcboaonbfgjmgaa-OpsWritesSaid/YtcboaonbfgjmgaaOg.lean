/-
  The document's numbers and parts.
-/
import Derived.Test.YtcboaonbfgjmgaaOf
open Go.Proofs Go Go.Am
namespace Go.Proofs.Ytcboaonbfgjmgaa.op
open Go.Proofs.Ytcboaonbfgjmgaa.vb Go.Proofs.Ytcboaonbfgjmgaa.vr
set_option linter.unusedVariables false
set_option linter.unusedSimpArgs false
set_option maxRecDepth 100000

variable {E : Env} {w0 : World}

theorem and_114 (a b : Int) : binA Try.prog .and 114 (.int .u64 a) (.int .u64 b) = some (.int .u64 (IntKind.u64.wrap (BitVec.ofInt 64 a &&& BitVec.ofInt 64 b).toNat)) := by kernel_rfl
theorem or_114 (a b : Int) : binA Try.prog .or 114 (.int .u64 a) (.int .u64 b) = some (.int .u64 (IntKind.u64.wrap (BitVec.ofInt 64 a ||| BitVec.ofInt 64 b).toNat)) := by kernel_rfl
theorem shl_114 (x y : Int) : binA Try.prog .shl 114 (.int .u64 x) (.int .i64 y) = if y < 0 then none else some (.int .u64 (IntKind.u64.wrap (x * 2 ^ (min y.toNat 64)))) := by kernel_rfl
theorem cv_114_2' (H : AHeap) (n : Int) : (convA Try.prog E H 114 2 (.int .u64 n)).map (·.1) = some (.int .i64 (IntKind.i64.wrap n)) := by kernel_rfl

theorem toNat_ofInt (a : Nat) : (BitVec.ofInt 64 (a : Int)).toNat = a % 2 ^ 64 := by
  rw [BitVec.toNat_ofInt]
  omega
theorem u64_nat {a : Nat} (h : a < 2 ^ 64) : IntKind.u64.wrap (a : Int) = a := by rw [u64_wrap]; omega
theorem and_nat (a : Nat) : binA Try.prog .and 114 (.int .u64 (a : Int)) (.int .u64 1) = some (.int .u64 ((a % 2 : Nat) : Int)) := by
  rw [and_114, BitVec.toNat_and, toNat_ofInt, show (1 : Int) = ((1 : Nat) : Int) from rfl, toNat_ofInt, show (1 : Nat) % 2 ^ 64 = 1 from rfl, Nat.and_one_is_mod, u64_nat (by omega)]
  congr 3
  omega
theorem or_nat {a b : Nat} (ha : a < 2 ^ 64) (hb : b < 2 ^ 64) : binA Try.prog .or 114 (.int .u64 (a : Int)) (.int .u64 (b : Int)) = some (.int .u64 ((a ||| b : Nat) : Int)) := by
  rw [or_114, BitVec.toNat_or, toNat_ofInt, toNat_ofInt, Nat.mod_eq_of_lt ha, Nat.mod_eq_of_lt hb, u64_nat (Nat.or_lt_two_pow ha hb)]
theorem shr_nat {a i : Nat} (hi : i ≤ 64) : binA Try.prog .shr 114 (.int .u64 (a : Int)) (.int .i64 (i : Int)) = some (.int .u64 ((a / 2 ^ i : Nat) : Int)) := by
  rw [shr_114, if_neg (by omega), Int.toNat_natCast, Nat.min_eq_left hi, Int.fdiv_eq_ediv_of_nonneg _ (Int.le_of_lt (Int.pow_pos (by decide)))]
  simp
theorem shl_nat {a i : Nat} (hi : i ≤ 64) (h : a * 2 ^ i < 2 ^ 64) : binA Try.prog .shl 114 (.int .u64 (a : Int)) (.int .i64 (i : Int)) = some (.int .u64 ((a * 2 ^ i : Nat) : Int)) := by
  rw [shl_114, if_neg (by omega), Int.toNat_natCast, Nat.min_eq_left hi]
  have e : (a : Int) * 2 ^ i = ((a * 2 ^ i : Nat) : Int) := by simp
  rw [e, u64_nat h]
theorem or_add {a b i : Nat} (h : a < 2 ^ i) : a ||| (b * 2 ^ i) = a + b * 2 ^ i := by
  have := Nat.two_pow_add_eq_or_of_lt h b
  rw [Nat.or_comm, Nat.mul_comm b, ← this, Nat.add_comm]
theorem u64_cast (n : Int) : IntKind.u64.wrap n = (((n % 18446744073709551616).toNat : Nat) : Int) := by rw [u64_wrap]; omega

theorem bitsR_ok {H : AHeap} {w : Int} : FnX Try.prog E w0 71 [.int .u8 w] H fun v H' => v = .int .i64 (bitsS w) ∧ H' = H := by
  refine V71_ok ?_
  unfold V71 bitsS
  simp only [eqv_5, oS, condW_bool, beq_iff_eq, beq_eq_false_iff_ne, ne_eq]
  refine ⟨fun h => ?_, fun h1 => ⟨fun h => ?_, fun h2 => ⟨fun h => ?_, fun h3 => ?_⟩⟩⟩
  · rw [if_pos h]; exact ⟨rfl, by trivial⟩
  · rw [if_neg h1, if_pos h]; exact ⟨rfl, by trivial⟩
  · rw [if_neg h1, if_neg h2, if_pos h]; exact ⟨rfl, by trivial⟩
  · rw [if_neg h1, if_neg h2, if_neg h3]; exact ⟨rfl, by trivial⟩

/-- The lowest bits, the topmost of them being the sign. -/
def outS (U b : Nat) : Nat := U % 2 ^ b + (U / 2 ^ (b - 1)) % 2 * (2 ^ 64 - 2 ^ b)
theorem bits_nat (w : Int) : ∃ b : Nat, bitsS w = (b : Int) ∧ (b = 0 ∨ b = 8 ∨ b = 32 ∨ b = 64) := by
  unfold bitsS
  split
  · exact ⟨8, rfl, by omega⟩
  split
  · exact ⟨32, rfl, by omega⟩
  split
  · exact ⟨64, rfl, by omega⟩
  · exact ⟨0, rfl, by omega⟩

theorem mod_succ_pow (U i : Nat) : U % 2 ^ i + U / 2 ^ i % 2 * 2 ^ i = U % 2 ^ (i + 1) := by
  rw [Nat.pow_succ, Nat.mod_mul, Nat.mul_comm (2 ^ i)]

theorem wrapR_ok {H : AHeap} {w n : Int} (hw : 0 < bitsS w) : FnX Try.prog E w0 76 [.int .u8 w, .int .i64 n] H fun v H' => v = .int .i64 (IntKind.i64.wrap (outS (n % 18446744073709551616).toNat (bitsS w).toNat : Nat)) ∧ H' = H := by
  refine V76_ok ?_
  unfold V76
  refine bitsR_ok.use ?_
  rintro v H1 ⟨rfl, rfl⟩ _ _
  obtain ⟨b, hb, hbc⟩ := bits_nat w
  rw [hb] at hw ⊢
  rw [Int.toNat_natCast]
  obtain ⟨U, hU⟩ : ∃ U, U = (n % 18446744073709551616).toNat := ⟨_, rfl⟩
  have hUl : U < 2 ^ 64 := by omega
  rw [← hU]
  have hu : IntKind.u64.wrap n = (U : Int) := by rw [u64_cast, hU]
  have hb64 : b ≤ 64 := by omega
  have pow_le : ∀ {x y : Nat}, x ≤ y → 2 ^ x ≤ 2 ^ y := fun h => Nat.pow_le_pow_right (by decide) h
  refine loop76_0 (I := fun m t1 t5 t6 t7 H' => t1 = .int .i64 n ∧ t5 = .int .i64 (b : Int) ∧ H' = H1 ∧ ∃ i : Nat, t7 = .int .i64 (i : Int) ∧ i + m = b ∧ t6 = .int .u64 ((U % 2 ^ i : Nat) : Int)) ?_ (n := b)
    ⟨rfl, rfl, rfl, 0, rfl, by omega, by simp [Nat.mod_one]⟩
  rintro m _ _ _ _ H2 ⟨rfl, rfl, rfl, i, rfl, hi, rfl⟩
  intros
  unfold B76_0
  rw [bin_lss, oS, condW_bool]
  refine ⟨fun hlt => ?_, fun hge => ?_⟩
  · have hlt : i < b := by have := of_decide_eq_true hlt; omega
    have h1 : U % 2 ^ i < 2 ^ i := Nat.mod_lt _ (Nat.pow_pos (by decide))
    have h2 : U % 2 ^ (i + 1) < 2 ^ (i + 1) := Nat.mod_lt _ (Nat.pow_pos (by decide))
    have h3 := pow_le (show i + 1 ≤ 64 by omega)
    have h4 := mod_succ_pow U i
    have h5 : U / 2 ^ i % 2 * 2 ^ i < 2 ^ 64 := by omega
    rw [cv_2_114, oS, hu, shr_nat (by omega), oS, and_nat, oS, shl_nat (by omega) h5, oS, or_nat (by have := pow_le (show i ≤ 64 by omega); omega) h5, oS, or_add h1, h4, bin_add, oS, wrap_i64 (by omega) (by omega)]
    exact ⟨m - 1, by omega, rfl, rfl, rfl, rfl, i + 1, by simp, by omega, rfl⟩
  · have hge : ¬ (i : Int) < b := of_decide_eq_false hge
    obtain rfl : i = b := by omega
    obtain ⟨s, hs⟩ : ∃ s, s = U / 2 ^ (i - 1) % 2 := ⟨_, rfl⟩
    have hs2 : s < 2 := by rw [hs]; exact Nat.mod_lt _ (by decide)
    have hpow : 2 ^ i ≤ 2 ^ 64 := pow_le hb64
    refine loop76_1 (I := fun m t1 t5 t6 t8 H' => t1 = .int .i64 n ∧ t5 = .int .i64 (i : Int) ∧ H' = H2 ∧ ∃ j : Nat, t8 = .int .i64 (j : Int) ∧ j + m = 64 ∧ i ≤ j ∧ t6 = .int .u64 ((U % 2 ^ i + s * (2 ^ j - 2 ^ i) : Nat) : Int)) ?_ (n := 64 - i)
      ⟨rfl, rfl, rfl, i, rfl, by omega, Nat.le_refl _, by simp⟩
    rintro m _ _ _ _ H3 ⟨rfl, rfl, rfl, j, rfl, hj, hij, rfl⟩
    intros
    unfold B76_1
    simp only [bin_gtr, oS, dT (show (i : Int) > 0 by omega), wB, btt, vT, bin_lss, pB, if_true]
    rw [condW_bool]
    have h1 : U % 2 ^ i < 2 ^ i := Nat.mod_lt _ (Nat.pow_pos (by decide))
    have hp := pow_le hij
    refine ⟨fun hlt => ?_, fun hge => ?_⟩
    · have hlt : j < 64 := by have := of_decide_eq_true hlt; omega
      have hp1 := pow_le (show j + 1 ≤ 64 by omega)
      have hp2 : 2 ^ (j + 1) = 2 ^ j * 2 := Nat.pow_succ ..
      have hm : s * (2 ^ j - 2 ^ i) ≤ 2 ^ j - 2 ^ i ∧ s * 2 ^ j ≤ 2 ^ j ∧ s * (2 ^ (j + 1) - 2 ^ i) = s * (2 ^ j - 2 ^ i) + s * 2 ^ j := by
        have : s = 0 ∨ s = 1 := by omega
        rcases this with h | h <;> rw [h] <;> omega
      obtain ⟨m1, m2, m3⟩ := hm
      have e1 : IntKind.i64.wrap ((i : Int) - 1) = ((i - 1 : Nat) : Int) := by rw [wrap_i64 (by omega) (by omega)]; omega
      have q1 : s * 2 ^ j < 2 ^ 64 := by omega
      have q2 : U % 2 ^ i + s * (2 ^ j - 2 ^ i) < 2 ^ 64 := by omega
      have q3 : U % 2 ^ i + s * (2 ^ j - 2 ^ i) < 2 ^ j := by omega
      rw [cv_2_114, oS, hu, bin_sub, oS, e1, shr_nat (by omega), oS, and_nat, oS, ← hs, shl_nat (show j ≤ 64 by omega) q1, oS, or_nat q2 q1, oS, or_add q3, bin_add, oS, wrap_i64 (by omega) (by omega)]
      exact ⟨m - 1, by omega, rfl, rfl, rfl, rfl, j + 1, by simp, by omega, by omega, by rw [m3, Nat.add_assoc]; rfl⟩
    · have hge : ¬ (j : Int) < 64 := of_decide_eq_false hge
      obtain rfl : j = 64 := by omega
      rw [cv_114_2', oS]
      refine ⟨?_, by trivial⟩
      unfold outS
      rw [← hs]

theorem out_is {w n : Int} (hn : I64 n) (hw : 0 < bitsS w) : IntKind.i64.wrap (outS (n % 18446744073709551616).toNat (bitsS w).toNat : Nat) = wrapS w n := by
  obtain ⟨h0, h1⟩ := hn
  have iw : ∀ z : Int, IntKind.i64.wrap z = if 9223372036854775808 ≤ z % 18446744073709551616 then z % 18446744073709551616 - 18446744073709551616 else z % 18446744073709551616 := by
    intro z
    simp only [IntKind.wrap, IntKind.bits, IntKind.signed]; simp
  unfold wrapS
  unfold bitsS at hw ⊢
  by_cases w1 : w = 1
  · simp only [if_pos w1]
    have hw8 : IntKind.i64.wrap (if 128 ≤ n % 256 then n % 256 - 256 else n % 256) = if 128 ≤ n % 256 then n % 256 - 256 else n % 256 := wrap_i64 (by split <;> omega) (by split <;> omega)
    rw [i8_wrap, hw8, iw]
    simp only [outS, show (8 : Int).toNat = 8 from rfl]
    split <;> split <;> omega
  simp only [if_neg w1] at hw ⊢
  by_cases w2 : w = 2
  · simp only [if_pos w2]
    have hw8 : IntKind.i64.wrap (if 2147483648 ≤ n % 4294967296 then n % 4294967296 - 4294967296 else n % 4294967296) = if 2147483648 ≤ n % 4294967296 then n % 4294967296 - 4294967296 else n % 4294967296 := wrap_i64 (by split <;> omega) (by split <;> omega)
    rw [i32_wrap, hw8, iw]
    simp only [outS, show (32 : Int).toNat = 32 from rfl]
    split <;> split <;> omega
  simp only [if_neg w2] at hw ⊢
  by_cases w3 : w = 3
  · simp only [if_pos w3]
    rw [iw]
    simp only [outS, show (64 : Int).toNat = 64 from rfl]
    split <;> omega
  simp only [if_neg w3] at hw
  omega

theorem fitsR_ok {H : AHeap} {w n : Int} (hn : I64 n) : FnX Try.prog E w0 63 [.int .u8 w, .int .i64 n] H fun v H' => v = .bool (decide (fitLo w ≤ n ∧ n ≤ fitHi w)) ∧ H' = H := by
  refine V63_ok ?_
  unfold V63
  refine bitsR_ok.use ?_
  rintro v H1 ⟨rfl, rfl⟩ _ _
  rw [bin_gtr, oS]
  have hi := fits_iff (w := w) hn
  by_cases hb : bitsS w > 0
  · simp only [hb, decide_true, wB, btt, vT, oS, gT]
    refine (wrapR_ok hb).use ?_
    rintro v H2 ⟨rfl, rfl⟩ _ _
    rw [out_is hn hb]
    simp only [oS, eqv_2, pB, if_true]
    refine ⟨?_, by trivial⟩
    congr 1
    by_cases hw : wrapS w n = n
    · rw [decide_eq_true (hi.1 ⟨hb, hw⟩), hw]; simp
    · rw [decide_eq_false (fun h => hw (hi.2 h).2)]; simpa using hw
  · simp only [hb, decide_false, wB, bft, vF, oS, gF, pB, Bool.false_eq_true, if_false]
    refine ⟨?_, by trivial⟩
    rw [decide_eq_false (fun h => hb (hi.2 h).1)]
end Go.Proofs.Ytcboaonbfgjmgaa.op
