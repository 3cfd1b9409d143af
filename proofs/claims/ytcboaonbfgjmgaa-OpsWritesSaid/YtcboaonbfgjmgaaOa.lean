/-
  Instructions: what stays, closures, numbers' bytes.
-/
import Derived.Test.YtcboaonbfgjmgaaAm36
import Derived.Test.YtcboaonbfgjmgaaTyb
open Go.Proofs Go Go.Am
namespace Go.Proofs.Ytcboaonbfgjmgaa.op
open Go.Proofs.Ytcboaonbfgjmgaa.vb
set_option linter.unusedVariables false
set_option linter.unusedSimpArgs false
set_option maxRecDepth 100000

variable {E : Env} {w0 : World}

/-- The objects that X tells of stay. -/
def Keeps (X : Nat → Prop) (H H' : AHeap) : Prop := ∀ k all pre, X k → H.get k = some (.cells all true pre) → H'.get k = some (.cells all true pre)
def All : Nat → Prop := fun _ => True
section
variable {H H' H1 H2 : AHeap} {X Y : Nat → Prop}
theorem Keeps.refl : Keeps X H H := fun _ _ _ _ h => h
theorem Keeps.of (h : Stays H H') : Keeps X H H' := fun k all pre _ hk => h k all pre hk
theorem Keeps.but {b : Nat} (h : But b H H') (hb : ∀ k, X k → k ≠ b) : Keeps X H H' := fun k all pre hx hk => h k all pre (hb k hx) hk
theorem Keeps.stays (h : Keeps X H H') (F : Fine H) (hx : ∀ k, k < H.next → X k) : Stays H H' := fun k all pre hk => h k all pre (hx k (F.lt hk)) hk
theorem Keeps.trans (h1 : Keeps X H H1) (h2 : Keeps Y H1 H2) (F : Fine H) (hxy : ∀ k, k < H.next → X k → Y k) : Keeps X H H2 :=
  fun k all pre hx hk => h2 k all pre (hxy k (F.lt hk) hx) (h1 k all pre hx hk)
theorem Keeps.less (h : Keeps X H H') (hxy : ∀ k, Y k → X k) : Keeps Y H H' := fun k all pre hy hk => h k all pre (hxy k hy) hk
end
theorem stays_trans {H H1 H2 : AHeap} (h1 : Stays H H1) (h2 : Stays H1 H2) : Stays H H2 := fun k all pre h => h2 _ _ _ (h1 _ _ _ h)

theorem u8_wrap (n : Int) : IntKind.u8.wrap n = n % 256 := by
  simp only [IntKind.wrap, IntKind.bits, IntKind.signed]; simp
theorem u64_wrap (n : Int) : IntKind.u64.wrap n = n % 18446744073709551616 := by
  simp only [IntKind.wrap, IntKind.bits, IntKind.signed]; simp
theorem i8_wrap (n : Int) : IntKind.i8.wrap n = if 128 ≤ n % 256 then n % 256 - 256 else n % 256 := by
  simp only [IntKind.wrap, IntKind.bits, IntKind.signed]; simp
theorem i32_wrap (n : Int) : IntKind.i32.wrap n = if 2147483648 ≤ n % 4294967296 then n % 4294967296 - 4294967296 else n % 4294967296 := by
  simp only [IntKind.wrap, IntKind.bits, IntKind.signed]; simp

/-- Between which numbers a width's are. -/
def fitLo (w : Int) : Int := if w = 1 then -128 else if w = 2 then -2147483648 else if w = 3 then -9223372036854775808 else 1
def fitHi (w : Int) : Int := if w = 1 then 127 else if w = 2 then 2147483647 else if w = 3 then 9223372036854775807 else 0
def I64 (n : Int) : Prop := -9223372036854775808 ≤ n ∧ n ≤ 9223372036854775807

/-- word.Bits. -/
def bitsS (w : Int) : Int := if w = 1 then 8 else if w = 2 then 32 else if w = 3 then 64 else 0
theorem bits_ok {H : AHeap} {w : Int} : FnX Try.prog E w0 77 [.int .u8 w] H fun v H' => v = .int .i64 (bitsS w) ∧ H' = H := by
  refine V77_ok ?_
  unfold V77 bitsS
  simp only [eqv_5, oS, condW_bool, beq_iff_eq, beq_eq_false_iff_ne, ne_eq]
  refine ⟨fun h => ?_, fun h1 => ⟨fun h => ?_, fun h2 => ⟨fun h => ?_, fun h3 => ?_⟩⟩⟩
  · rw [if_pos h]; exact ⟨rfl, by trivial⟩
  · rw [if_neg h1, if_pos h]; exact ⟨rfl, by trivial⟩
  · rw [if_neg h1, if_neg h2, if_pos h]; exact ⟨rfl, by trivial⟩
  · rw [if_neg h1, if_neg h2, if_neg h3]; exact ⟨rfl, by trivial⟩

/-- word.Wrap. -/
def wrapS (w n : Int) : Int := if w = 1 then IntKind.i64.wrap (IntKind.i8.wrap n) else if w = 2 then IntKind.i64.wrap (IntKind.i32.wrap n) else if w = 3 then n else 0
theorem wrap_ok {H : AHeap} {w n : Int} : FnX Try.prog E w0 78 [.int .u8 w, .int .i64 n] H fun v H' => v = .int .i64 (wrapS w n) ∧ H' = H := by
  refine V78_ok ?_
  unfold V78 wrapS
  simp only [eqv_5, oS, condW_bool, beq_iff_eq, beq_eq_false_iff_ne, ne_eq, cv_2_127, cv_127_2, cv_2_21, cv_21_2]
  refine ⟨fun h => ?_, fun h1 => ⟨fun h => ?_, fun h2 => ⟨fun h => ?_, fun h3 => ?_⟩⟩⟩
  · rw [if_pos h]; exact ⟨rfl, by trivial⟩
  · rw [if_neg h1, if_pos h]; exact ⟨rfl, by trivial⟩
  · rw [if_neg h1, if_neg h2, if_pos h]; exact ⟨rfl, by trivial⟩
  · rw [if_neg h1, if_neg h2, if_neg h3]; exact ⟨rfl, by trivial⟩

theorem fits_iff {w n : Int} (hn : I64 n) : (0 < bitsS w ∧ wrapS w n = n) ↔ (fitLo w ≤ n ∧ n ≤ fitHi w) := by
  obtain ⟨h0, h1⟩ := hn
  unfold bitsS wrapS fitLo fitHi
  by_cases w1 : w = 1
  · simp only [if_pos w1]
    rw [i8_wrap, wrap_i64 (by split <;> omega) (by split <;> omega)]
    split <;> constructor <;> omega
  simp only [if_neg w1]
  by_cases w2 : w = 2
  · simp only [if_pos w2]
    rw [i32_wrap, wrap_i64 (by split <;> omega) (by split <;> omega)]
    split <;> constructor <;> omega
  simp only [if_neg w2]
  by_cases w3 : w = 3
  · simp only [if_pos w3]; exact ⟨fun _ => ⟨h0, h1⟩, fun _ => ⟨by decide, by trivial⟩⟩
  simp only [if_neg w3]; constructor <;> omega

theorem fits_ok {H : AHeap} {w n : Int} (hn : I64 n) : FnX Try.prog E w0 70 [.int .u8 w, .int .i64 n] H fun v H' => v = .bool (decide (fitLo w ≤ n ∧ n ≤ fitHi w)) ∧ H' = H := by
  refine V70_ok ?_
  unfold V70
  refine bits_ok.use ?_
  rintro v H1 ⟨rfl, rfl⟩ _ _
  rw [bin_gtr, oS]
  have hi := fits_iff (w := w) hn
  by_cases hb : bitsS w > 0
  · simp only [hb, decide_true, wB, btt, vT, oS, gT]
    refine wrap_ok.use ?_
    rintro v H2 ⟨rfl, rfl⟩ _ _
    simp only [oS, eqv_2, pB, if_true]
    refine ⟨?_, by trivial⟩
    congr 1
    by_cases hw : wrapS w n = n
    · rw [decide_eq_true (hi.1 ⟨hb, hw⟩), hw]; simp
    · rw [decide_eq_false (fun h => hw (hi.2 h).2)]; simpa using hw
  · simp only [hb, decide_false, wB, bft, vF, oS, gF, pB, Bool.false_eq_true, if_false]
    refine ⟨?_, by trivial⟩
    rw [decide_eq_false (fun h => hb (hi.2 h).1)]

/-- A function that tells whether a number is from one to another. -/
def MayAt (X : Nat → Prop) (H : AHeap) (fv : AV) (lo hi : Int) : Prop :=
  (∃ k1 k2 p1 p2, fv = .fn (.func 68) [] [.ptr (.new k1) 0, .ptr (.new k2) 0] ∧ H.get k1 = some (.cells [.int .i64 lo] true p1) ∧ H.get k2 = some (.cells [.int .i64 hi] true p2) ∧ X k1 ∧ X k2) ∨
  (∃ k p w, fv = .fn (.func 69) [] [.ptr (.new k) 0] ∧ H.get k = some (.cells [.int .u8 w] true p) ∧ X k ∧ lo = fitLo w ∧ hi = fitHi w)
section
variable {H H' H1 : AHeap} {X Y : Nat → Prop} {fv : AV} {lo hi : Int}
theorem MayAt.keep (h : MayAt X H fv lo hi) (hk : Keeps X H H') : MayAt X H' fv lo hi := by
  rcases h with ⟨k1, k2, p1, p2, e, a, b, c, d⟩ | ⟨k, p, w, e, a, c, d⟩
  · exact .inl ⟨k1, k2, p1, p2, e, hk _ _ _ c a, hk _ _ _ d b, c, d⟩
  · exact .inr ⟨k, p, w, e, hk _ _ _ c a, c, d⟩
theorem MayAt.less (h : MayAt X H fv lo hi) (F : Fine H) (hxy : ∀ k, k < H.next → X k → Y k) : MayAt Y H fv lo hi := by
  rcases h with ⟨k1, k2, p1, p2, e, a, b, c, d⟩ | ⟨k, p, w, e, a, c, d⟩
  · exact .inl ⟨k1, k2, p1, p2, e, a, b, hxy _ (F.lt a) c, hxy _ (F.lt b) d⟩
  · exact .inr ⟨k, p, w, e, a, hxy _ (F.lt a) c, d⟩
theorem MayAt.scalar (h : MayAt X H fv lo hi) : Am.scalar fv = true := by
  rcases h with ⟨k1, k2, p1, p2, rfl, _⟩ | ⟨k, p, w, rfl, _⟩ <;> rfl
theorem MayAt.cells (h : MayAt X H fv lo hi) : fv.cells = [fv] := by
  rcases h with ⟨k1, k2, p1, p2, rfl, _⟩ | ⟨k, p, w, rfl, _⟩ <;> rfl

theorem between_ok (F : Fine H) {lo hi : Int} : FnX Try.prog E w0 45 [.int .i64 lo, .int .i64 hi] H fun v H' => MayAt (fun k => H.next ≤ k) H' v lo hi ∧ Stays H H' := by
  refine V45_ok ?_
  unfold V45
  obtain ⟨a1, a2, a3, F1⟩ := F.newCells [AV.int .i64 lo]
  obtain ⟨b1, b2, b3, F2⟩ := F1.newCells [AV.int .i64 hi]
  simp only [wW, oS, AV.cells]
  exact ⟨.inl ⟨H.next, (newCells H [AV.int .i64 lo]).next, _, _, rfl, b2 _ _ _ a1, b1, Nat.le_refl _, by rw [a3]; omega⟩, stays_trans a2 b2⟩
theorem fitsF_ok (F : Fine H) {w : Int} : FnX Try.prog E w0 46 [.int .u8 w] H fun v H' => MayAt (fun k => H.next ≤ k) H' v (fitLo w) (fitHi w) ∧ Stays H H' := by
  refine V46_ok ?_
  unfold V46
  obtain ⟨a1, a2, a3, F1⟩ := F.newCells [AV.int .u8 w]
  simp only [wW, oS, AV.cells]
  exact ⟨.inr ⟨H.next, _, w, rfl, a1, Nat.le_refl _, rfl, rfl⟩, a2⟩

theorem call_68 (H : AHeap) (n : Int) (a b : AV) : callVA Try.prog E H (.fn (.func 68) [] [a, b]) [.int .i64 n] = some (.call 68 [.int .i64 n, a, b] H) := by kernel_rfl
theorem call_69 (H : AHeap) (n : Int) (a : AV) : callVA Try.prog E H (.fn (.func 69) [] [a]) [.int .i64 n] = some (.call 69 [.int .i64 n, a] H) := by kernel_rfl

theorem may_ok (h : MayAt X H fv lo hi) {n : Int} (hn : I64 n) {K : AV → AHeap → Prop} (hK : K (.bool (decide (lo ≤ n ∧ n ≤ hi))) H) : resF (FnX Try.prog E w0) (callVA Try.prog E H fv [.int .i64 n]) K := by
  rcases h with ⟨k1, k2, p1, p2, rfl, a, b, _⟩ | ⟨k, p, w, rfl, a, _, rfl, rfl⟩
  · rw [call_68]
    show FnX Try.prog E w0 68 _ H K
    refine V68_ok ?_
    unfold V68
    have l1 : loadCell E H (.new k1) 0 = some (.int .i64 lo) := by rw [loadCell_new E a]; rfl
    have l2 : loadCell E H (.new k2) 0 = some (.int .i64 hi) := by rw [loadCell_new E b]; rfl
    rw [ld_2, l1, oS, bin_leq, oS]
    by_cases h1 : lo ≤ n
    · simp only [h1, decide_true, wB, btt, vT, oS, ld_2, l2, bin_leq, pB, if_true]
      simpa [h1] using hK
    · simp only [h1, decide_false, wB, bft, vF, oS, pB, Bool.false_eq_true, if_false]
      simpa [h1] using hK
  · rw [call_69]
    show FnX Try.prog E w0 69 _ H K
    refine V69_ok ?_
    unfold V69
    have l1 : loadCell E H (.new k) 0 = some (.int .u8 w) := by rw [loadCell_new E a]; rfl
    rw [ld_5, l1, oS]
    refine (fits_ok hn).use ?_
    rintro v H2 ⟨rfl, rfl⟩ _ _
    exact hK
end
end Go.Proofs.Ytcboaonbfgjmgaa.op
