/-
  Texts Oa Ob Oc Od Oe Of Og Oh Oi Oj Ok Ol, as one.
-/
import Derived.Test.YtcboaonbfgjmgaaAm36
import Derived.Test.YtcboaonbfgjmgaaVz
/-
  Instructions: what stays, closures, numbers' bytes.
-/
open Go.Proofs Go Go.Am
namespace Go.Proofs.Ytcboaonbfgjmgaa.op
open Go.Proofs.Ytcboaonbfgjmgaa.vb
set_option linter.unusedVariables false
set_option linter.unusedSimpArgs false
set_option maxRecDepth 100000

variable {E : Env} {w0 : World}

/-- The objects that X tells of stay. -/
def Keeps (X : Nat → Prop) (H H' : AHeap) : Prop := ∀ k all pre, X k → H.get k = some (.cells all true pre) → H'.get k = some (.cells all true pre)
def All : Nat → Prop := fun _ => True
section
variable {H H' H1 H2 : AHeap} {X Y : Nat → Prop}
theorem Keeps.refl : Keeps X H H := fun _ _ _ _ h => h
theorem Keeps.of (h : Stays H H') : Keeps X H H' := fun k all pre _ hk => h k all pre hk
theorem Keeps.but {b : Nat} (h : But b H H') (hb : ∀ k, X k → k ≠ b) : Keeps X H H' := fun k all pre hx hk => h k all pre (hb k hx) hk
theorem Keeps.stays (h : Keeps X H H') (F : Fine H) (hx : ∀ k, k < H.next → X k) : Stays H H' := fun k all pre hk => h k all pre (hx k (F.lt hk)) hk
theorem Keeps.trans (h1 : Keeps X H H1) (h2 : Keeps Y H1 H2) (F : Fine H) (hxy : ∀ k, k < H.next → X k → Y k) : Keeps X H H2 :=
  fun k all pre hx hk => h2 k all pre (hxy k (F.lt hk) hx) (h1 k all pre hx hk)
theorem Keeps.less (h : Keeps X H H') (hxy : ∀ k, Y k → X k) : Keeps Y H H' := fun k all pre hy hk => h k all pre (hxy k hy) hk
end
theorem stays_trans {H H1 H2 : AHeap} (h1 : Stays H H1) (h2 : Stays H1 H2) : Stays H H2 := fun k all pre h => h2 _ _ _ (h1 _ _ _ h)

theorem u8_wrap (n : Int) : IntKind.u8.wrap n = n % 256 := by
  simp only [IntKind.wrap, IntKind.bits, IntKind.signed]; simp
theorem u64_wrap (n : Int) : IntKind.u64.wrap n = n % 18446744073709551616 := by
  simp only [IntKind.wrap, IntKind.bits, IntKind.signed]; simp
theorem i8_wrap (n : Int) : IntKind.i8.wrap n = if 128 ≤ n % 256 then n % 256 - 256 else n % 256 := by
  simp only [IntKind.wrap, IntKind.bits, IntKind.signed]; simp
theorem i32_wrap (n : Int) : IntKind.i32.wrap n = if 2147483648 ≤ n % 4294967296 then n % 4294967296 - 4294967296 else n % 4294967296 := by
  simp only [IntKind.wrap, IntKind.bits, IntKind.signed]; simp

/-- Between which numbers a width's are. -/
def fitLo (w : Int) : Int := if w = 1 then -128 else if w = 2 then -2147483648 else if w = 3 then -9223372036854775808 else 1
def fitHi (w : Int) : Int := if w = 1 then 127 else if w = 2 then 2147483647 else if w = 3 then 9223372036854775807 else 0
def I64 (n : Int) : Prop := -9223372036854775808 ≤ n ∧ n ≤ 9223372036854775807

/-- word.Bits. -/
def bitsS (w : Int) : Int := if w = 1 then 8 else if w = 2 then 32 else if w = 3 then 64 else 0
theorem bits_ok {H : AHeap} {w : Int} : FnX Try.prog E w0 77 [.int .u8 w] H fun v H' => v = .int .i64 (bitsS w) ∧ H' = H := by
  refine V77_ok ?_
  unfold V77 bitsS
  simp only [eqv_5, oS, condW_bool, beq_iff_eq, beq_eq_false_iff_ne, ne_eq]
  refine ⟨fun h => ?_, fun h1 => ⟨fun h => ?_, fun h2 => ⟨fun h => ?_, fun h3 => ?_⟩⟩⟩
  · rw [if_pos h]; exact ⟨rfl, by trivial⟩
  · rw [if_neg h1, if_pos h]; exact ⟨rfl, by trivial⟩
  · rw [if_neg h1, if_neg h2, if_pos h]; exact ⟨rfl, by trivial⟩
  · rw [if_neg h1, if_neg h2, if_neg h3]; exact ⟨rfl, by trivial⟩

/-- word.Wrap. -/
def wrapS (w n : Int) : Int := if w = 1 then IntKind.i64.wrap (IntKind.i8.wrap n) else if w = 2 then IntKind.i64.wrap (IntKind.i32.wrap n) else if w = 3 then n else 0
theorem wrap_ok {H : AHeap} {w n : Int} : FnX Try.prog E w0 78 [.int .u8 w, .int .i64 n] H fun v H' => v = .int .i64 (wrapS w n) ∧ H' = H := by
  refine V78_ok ?_
  unfold V78 wrapS
  simp only [eqv_5, oS, condW_bool, beq_iff_eq, beq_eq_false_iff_ne, ne_eq, cv_2_127, cv_127_2, cv_2_21, cv_21_2]
  refine ⟨fun h => ?_, fun h1 => ⟨fun h => ?_, fun h2 => ⟨fun h => ?_, fun h3 => ?_⟩⟩⟩
  · rw [if_pos h]; exact ⟨rfl, by trivial⟩
  · rw [if_neg h1, if_pos h]; exact ⟨rfl, by trivial⟩
  · rw [if_neg h1, if_neg h2, if_pos h]; exact ⟨rfl, by trivial⟩
  · rw [if_neg h1, if_neg h2, if_neg h3]; exact ⟨rfl, by trivial⟩

theorem fits_iff {w n : Int} (hn : I64 n) : (0 < bitsS w ∧ wrapS w n = n) ↔ (fitLo w ≤ n ∧ n ≤ fitHi w) := by
  obtain ⟨h0, h1⟩ := hn
  unfold bitsS wrapS fitLo fitHi
  by_cases w1 : w = 1
  · simp only [if_pos w1]
    rw [i8_wrap, wrap_i64 (by split <;> omega) (by split <;> omega)]
    split <;> constructor <;> omega
  simp only [if_neg w1]
  by_cases w2 : w = 2
  · simp only [if_pos w2]
    rw [i32_wrap, wrap_i64 (by split <;> omega) (by split <;> omega)]
    split <;> constructor <;> omega
  simp only [if_neg w2]
  by_cases w3 : w = 3
  · simp only [if_pos w3]; exact ⟨fun _ => ⟨h0, h1⟩, fun _ => ⟨by decide, by trivial⟩⟩
  simp only [if_neg w3]; constructor <;> omega

theorem fits_ok {H : AHeap} {w n : Int} (hn : I64 n) : FnX Try.prog E w0 70 [.int .u8 w, .int .i64 n] H fun v H' => v = .bool (decide (fitLo w ≤ n ∧ n ≤ fitHi w)) ∧ H' = H := by
  refine V70_ok ?_
  unfold V70
  refine bits_ok.use ?_
  rintro v H1 ⟨rfl, rfl⟩ _ _
  rw [bin_gtr, oS]
  have hi := fits_iff (w := w) hn
  by_cases hb : bitsS w > 0
  · simp only [hb, decide_true, wB, btt, vT, oS, gT]
    refine wrap_ok.use ?_
    rintro v H2 ⟨rfl, rfl⟩ _ _
    simp only [oS, eqv_2, pB, if_true]
    refine ⟨?_, by trivial⟩
    congr 1
    by_cases hw : wrapS w n = n
    · rw [decide_eq_true (hi.1 ⟨hb, hw⟩), hw]; simp
    · rw [decide_eq_false (fun h => hw (hi.2 h).2)]; simpa using hw
  · simp only [hb, decide_false, wB, bft, vF, oS, gF, pB, Bool.false_eq_true, if_false]
    refine ⟨?_, by trivial⟩
    rw [decide_eq_false (fun h => hb (hi.2 h).1)]

/-- A function that tells whether a number is from one to another. -/
def MayAt (X : Nat → Prop) (H : AHeap) (fv : AV) (lo hi : Int) : Prop :=
  (∃ k1 k2 p1 p2, fv = .fn (.func 68) [] [.ptr (.new k1) 0, .ptr (.new k2) 0] ∧ H.get k1 = some (.cells [.int .i64 lo] true p1) ∧ H.get k2 = some (.cells [.int .i64 hi] true p2) ∧ X k1 ∧ X k2) ∨
  (∃ k p w, fv = .fn (.func 69) [] [.ptr (.new k) 0] ∧ H.get k = some (.cells [.int .u8 w] true p) ∧ X k ∧ lo = fitLo w ∧ hi = fitHi w)
section
variable {H H' H1 : AHeap} {X Y : Nat → Prop} {fv : AV} {lo hi : Int}
theorem MayAt.keep (h : MayAt X H fv lo hi) (hk : Keeps X H H') : MayAt X H' fv lo hi := by
  rcases h with ⟨k1, k2, p1, p2, e, a, b, c, d⟩ | ⟨k, p, w, e, a, c, d⟩
  · exact .inl ⟨k1, k2, p1, p2, e, hk _ _ _ c a, hk _ _ _ d b, c, d⟩
  · exact .inr ⟨k, p, w, e, hk _ _ _ c a, c, d⟩
theorem MayAt.less (h : MayAt X H fv lo hi) (F : Fine H) (hxy : ∀ k, k < H.next → X k → Y k) : MayAt Y H fv lo hi := by
  rcases h with ⟨k1, k2, p1, p2, e, a, b, c, d⟩ | ⟨k, p, w, e, a, c, d⟩
  · exact .inl ⟨k1, k2, p1, p2, e, a, b, hxy _ (F.lt a) c, hxy _ (F.lt b) d⟩
  · exact .inr ⟨k, p, w, e, a, hxy _ (F.lt a) c, d⟩
theorem MayAt.scalar (h : MayAt X H fv lo hi) : Am.scalar fv = true := by
  rcases h with ⟨k1, k2, p1, p2, rfl, _⟩ | ⟨k, p, w, rfl, _⟩ <;> rfl
theorem MayAt.cells (h : MayAt X H fv lo hi) : fv.cells = [fv] := by
  rcases h with ⟨k1, k2, p1, p2, rfl, _⟩ | ⟨k, p, w, rfl, _⟩ <;> rfl

theorem between_ok (F : Fine H) {lo hi : Int} : FnX Try.prog E w0 45 [.int .i64 lo, .int .i64 hi] H fun v H' => MayAt (fun k => H.next ≤ k) H' v lo hi ∧ Stays H H' := by
  refine V45_ok ?_
  unfold V45
  obtain ⟨a1, a2, a3, F1⟩ := F.newCells [AV.int .i64 lo]
  obtain ⟨b1, b2, b3, F2⟩ := F1.newCells [AV.int .i64 hi]
  simp only [wW, oS, AV.cells]
  exact ⟨.inl ⟨H.next, (newCells H [AV.int .i64 lo]).next, _, _, rfl, b2 _ _ _ a1, b1, Nat.le_refl _, by rw [a3]; omega⟩, stays_trans a2 b2⟩
theorem fitsF_ok (F : Fine H) {w : Int} : FnX Try.prog E w0 46 [.int .u8 w] H fun v H' => MayAt (fun k => H.next ≤ k) H' v (fitLo w) (fitHi w) ∧ Stays H H' := by
  refine V46_ok ?_
  unfold V46
  obtain ⟨a1, a2, a3, F1⟩ := F.newCells [AV.int .u8 w]
  simp only [wW, oS, AV.cells]
  exact ⟨.inr ⟨H.next, _, w, rfl, a1, Nat.le_refl _, rfl, rfl⟩, a2⟩

theorem call_68 (H : AHeap) (n : Int) (a b : AV) : callVA Try.prog E H (.fn (.func 68) [] [a, b]) [.int .i64 n] = some (.call 68 [.int .i64 n, a, b] H) := by kernel_rfl
theorem call_69 (H : AHeap) (n : Int) (a : AV) : callVA Try.prog E H (.fn (.func 69) [] [a]) [.int .i64 n] = some (.call 69 [.int .i64 n, a] H) := by kernel_rfl

theorem may_ok (h : MayAt X H fv lo hi) {n : Int} (hn : I64 n) {K : AV → AHeap → Prop} (hK : K (.bool (decide (lo ≤ n ∧ n ≤ hi))) H) : resF (FnX Try.prog E w0) (callVA Try.prog E H fv [.int .i64 n]) K := by
  rcases h with ⟨k1, k2, p1, p2, rfl, a, b, _⟩ | ⟨k, p, w, rfl, a, _, rfl, rfl⟩
  · rw [call_68]
    show FnX Try.prog E w0 68 _ H K
    refine V68_ok ?_
    unfold V68
    have l1 : loadCell E H (.new k1) 0 = some (.int .i64 lo) := by rw [loadCell_new E a]; rfl
    have l2 : loadCell E H (.new k2) 0 = some (.int .i64 hi) := by rw [loadCell_new E b]; rfl
    rw [ld_2, l1, oS, bin_leq, oS]
    by_cases h1 : lo ≤ n
    · simp only [h1, decide_true, wB, btt, vT, oS, ld_2, l2, bin_leq, pB, if_true]
      simpa [h1] using hK
    · simp only [h1, decide_false, wB, bft, vF, oS, pB, Bool.false_eq_true, if_false]
      simpa [h1] using hK
  · rw [call_69]
    show FnX Try.prog E w0 69 _ H K
    refine V69_ok ?_
    unfold V69
    have l1 : loadCell E H (.new k) 0 = some (.int .u8 w) := by rw [loadCell_new E a]; rfl
    rw [ld_5, l1, oS]
    refine (fits_ok hn).use ?_
    rintro v H2 ⟨rfl, rfl⟩ _ _
    exact hK
end
end Go.Proofs.Ytcboaonbfgjmgaa.op

/-
  Instructions: Fixed, put, number, layout.
-/
open Go.Proofs Go Go.Am
namespace Go.Proofs.Ytcboaonbfgjmgaa.op
open Go.Proofs.Ytcboaonbfgjmgaa.vb
set_option linter.unusedVariables false
set_option linter.unusedSimpArgs false
set_option maxRecDepth 100000

variable {E : Env} {w0 : World}

def byteAt (n : Int) (i : Nat) : Int := (n / 2 ^ (8 * i)) % 256
/-- A number's lowest bytes. -/
def fixS (n : Int) (size : Nat) : List Int := (List.range size).map (byteAt n)
def bys (l : List Int) : List AV := l.map (AV.int .u8)
theorem bys_length (l : List Int) : (bys l).length = l.length := by simp [bys]
theorem bys_append (a b : List Int) : bys (a ++ b) = bys a ++ bys b := by simp [bys]
theorem bys_scalar (l : List Int) : (bys l).all Am.scalar = true := by
  rw [List.all_eq_true]
  intro x hx
  obtain ⟨y, _, rfl⟩ := List.mem_map.1 hx
  rfl
theorem bys_inj {a b : List Int} (h : bys a = bys b) : a = b := by
  have := congrArg (List.map fun x : AV => match x with | .int _ n => n | _ => 0) h
  simpa [bys, Function.comp_def] using this
theorem fixS_length (n : Int) (s : Nat) : (fixS n s).length = s := by simp [fixS]
theorem byteAt_wrap (n : Int) {i : Nat} (hi : i < 8) : byteAt (n % 18446744073709551616) i = byteAt n i := by
  have h : i = 0 ∨ i = 1 ∨ i = 2 ∨ i = 3 ∨ i = 4 ∨ i = 5 ∨ i = 6 ∨ i = 7 := by omega
  rcases h with rfl | rfl | rfl | rfl | rfl | rfl | rfl | rfl <;> simp [byteAt] <;> omega
theorem fixS_wrap (n : Int) {s : Nat} (hs : s ≤ 8) : fixS (n % 18446744073709551616) s = fixS n s := by
  unfold fixS
  refine List.map_congr_left fun i hi => byteAt_wrap n ?_
  have := List.mem_range.1 hi
  omega

theorem mk_27 (H : AHeap) (n : Int) : makeSliceA Try.prog H 27 (.int .i64 n) (.int .i64 n) = if IntKind.i64.wrap n = n ∧ IntKind.i64.wrap n = n ∧ 0 ≤ n ∧ n ≤ n ∧ ((1 : Nat) : Int) * n ≤ 2 ^ 47 ∧ 1 = 1 then
    some (.slc (.new H.next) 0 n.toNat n.toNat true 1, newCells H (rep [.int .u8 0] n.toNat)) else none := by kernel_rfl
theorem rep_one (z : AV) : ∀ n, rep [z] n = List.replicate n z
  | 0 => rfl
  | n + 1 => by rw [rep, rep_one z n]; rfl
theorem shr_114 (x y : Int) : binA Try.prog .shr 114 (.int .u64 x) (.int .i64 y) = if y < 0 then none else some (.int .u64 (x.fdiv (2 ^ (min y.toNat 64)))) := by kernel_rfl

theorem storesW {H H2 : AHeap} {t : TypeId} {b n : Nat} {x : AV} {K : AV → AHeap → Prop} (hs : sizeA Try.prog t = some x.cells.length) (h : storeRange H (.new b) n x.cells = some H2) (hk : K undefA H2) : storeW Try.prog H t (.ptr (.new b) n) x K := by
  unfold storeW
  simp only [hs, if_true, h]
  exact hk
theorem sz_5 {n : Int} : sizeA Try.prog 5 = some (AV.int .u8 n).cells.length := by kernel_rfl

/-- A slice of bytes, at an object. -/
def Bs (H : AHeap) (v : AV) (bs : List Int) (k : Nat) : Prop :=
  (v = .nilSlc ∧ bs = []) ∨ ∃ cap ex all pre, v = .slc (.new k) 0 bs.length cap ex 1 ∧ H.get k = some (.cells all true pre) ∧ all.take bs.length = bys bs ∧ bs.length ≤ cap

section
variable {H H' H1 : AHeap} {X Y : Nat → Prop} {bs ms : List Int} {v b : AV} {k : Nat}
theorem Bs.len (h : Bs H v bs k) (H2 : AHeap) : lenV Try.prog H2 27 v = some (.int .i64 bs.length) := by
  rcases h with ⟨rfl, rfl⟩ | ⟨cap, ex, all, pre, rfl, _⟩
  · exact len0_27 _
  · exact len_27 ..
theorem Bs.keep (h : Bs H v bs k) (hk : ∀ all pre, H.get k = some (.cells all true pre) → H'.get k = some (.cells all true pre)) : Bs H' v bs k := by
  rcases h with h | ⟨cap, ex, all, pre, e, a, b⟩
  · exact .inl h
  · exact .inr ⟨cap, ex, all, pre, e, hk _ _ a, b⟩
theorem Bs.lt (h : Bs H v bs k) (F : Fine H) (h0 : bs ≠ []) : k < H.next := by
  rcases h with ⟨_, h⟩ | ⟨cap, ex, all, pre, e, a, b⟩
  · exact (h0 h).elim
  · exact F.lt a

theorem fixed_ok (F : Fine H) {u : Int} (h0 : 0 ≤ u) {s : Nat} (h1 : 1 ≤ s) (h8 : s ≤ 8) : FnX Try.prog E w0 66 [.int .u64 u, .int .i64 (s : Int)] H fun v H' =>
    ∃ k pre, v = .slc (.new k) 0 s s true 1 ∧ k = H.next ∧ H'.get k = some (.cells (bys (fixS u s)) true pre) ∧ Stays H H' := by
  refine V66_ok ?_
  unfold V66
  have c1 : decide ((s : Int) < 1) = false := decide_eq_false (by omega)
  have c2 : decide ((s : Int) > 8) = false := decide_eq_false (by omega)
  simp only [bin_lss, oS, c1, wB, bff, vT, bin_gtr, c2, pB, Bool.false_eq_true, if_false, cF]
  rw [mk_27, if_pos ⟨wrap_i64 (by omega) (by omega), wrap_i64 (by omega) (by omega), by omega, by omega, by omega, rfl⟩, o2S, rep_one]
  simp only [Int.toNat_natCast]
  obtain ⟨n1, n2, n3, F2⟩ := F.newCells (List.replicate s (AV.int .u8 0))
  refine loop66_0 (I := fun n t0 t5 t15 t16 H' => t0 = .int .u64 u ∧ t5 = .slc (.new H.next) 0 s s true 1 ∧ t15 = .int .i64 (s : Int) ∧ ∃ i : Nat, t16 = .int .i64 (i : Int) ∧ i + n = s ∧ Fine H' ∧ Stays H H' ∧
      ∃ pre, H'.get H.next = some (.cells (bys (fixS u i) ++ List.replicate n (AV.int .u8 0)) true pre)) ?_ (n := s)
    ⟨rfl, rfl, rfl, 0, rfl, by omega, F2, n2, [], n1⟩
  rintro n _ _ _ _ H3 ⟨rfl, rfl, rfl, i, rfl, hi, F3, s3, pre, g3⟩
  intros
  unfold B66_0
  rw [bin_lss, oS, condW_bool]
  refine ⟨fun hlt => ?_, fun hge => ?_⟩
  · have hlt : i < s := by have := of_decide_eq_true hlt; omega
    rw [bin_mul, oS, wrap_i64 (by omega) (by omega), shr_114, if_neg (by omega), oS, cv_114_5, oS, ix_27, if_pos ⟨by omega, by omega⟩, oS]
    simp only [Nat.zero_add, Int.toNat_natCast, Nat.mul_one]
    obtain ⟨H4, p1, p2, p3, p4, F4⟩ := F3.store g3 (n := i) (x := .int .u8 (byteAt u i)) (by simp [bys_length, fixS_length]; omega) rfl
    have hb : IntKind.u8.wrap (u.fdiv (2 ^ (min (8 * (i : Int)).toNat 64))) = byteAt u i := by
      rw [u8_wrap, show (8 * (i : Int)).toNat = 8 * i by omega, Nat.min_eq_left (by omega), Int.fdiv_eq_ediv_of_nonneg _ (Int.le_of_lt (Int.pow_pos (by decide)))]
      rfl
    rw [hb]
    refine storesW sz_5 p1 ?_
    rw [bin_add, oS, wrap_i64 (by omega) (by omega)]
    refine ⟨n - 1, by omega, rfl, rfl, rfl, rfl, i + 1, by simp, by omega, F4, ?_, [], ?_⟩
    · intro j all pr hj
      have := F.lt hj
      exact p3 j all pr (by omega) (s3 j all pr hj)
    · rw [p2]
      congr 2
      obtain ⟨n', rfl⟩ : ∃ n', n = n' + 1 := ⟨n - 1, by omega⟩
      rw [List.set_append_right _ _ (by simp [bys_length, fixS_length]), bys_length, fixS_length, Nat.sub_self, List.replicate_succ, List.set_cons_zero, Nat.add_sub_cancel]
      have : fixS u (i + 1) = fixS u i ++ [byteAt u i] := by simp [fixS, List.range_succ]
      rw [this, bys_append, List.append_assoc]
      rfl
  · have hge : ¬ (i : Int) < s := of_decide_eq_false hge
    obtain rfl : n = 0 := by omega
    obtain rfl : i = s := by omega
    exact ⟨H.next, pre, rfl, rfl, by simpa using g3, s3⟩

/-- An append of bytes. -/
theorem app_bytes (F : Fine H) (h : Bs H b bs k) {m : AV} (hm : lenOfA m = some ms.length ∧ firstA E H 1 ms.length m = some (bys ms)) (h0 : ms ≠ []) (hl : bs.length + ms.length < 2 ^ 40) :
    ∃ r H', appendA Try.prog E H 27 b 27 m = some (r, H') ∧ Bs H' r (bs ++ ms) H.next ∧ Keeps (fun j => j ≠ k) H H' ∧ H'.next = H.next + 1 ∧ Fine H' := by
  have hn : ms.length ≠ 0 := fun e => h0 (List.length_eq_zero_iff.1 e)
  rw [app_27_27, hm.1]
  simp only [Option.bind_some, hm.2]
  rcases h with ⟨rfl, rfl⟩ | ⟨cap, ex, all, pre, rfl, g, ht, hc⟩
  · obtain ⟨a, b, c, d⟩ := F.newCells (bys ms)
    refine ⟨.slc (.new H.next) 0 ms.length ms.length false 1, newCells H (bys ms), ?_, .inr ⟨_, _, _, _, rfl, a, ?_, Nat.le_refl _⟩, Keeps.of b, c, d⟩
    · unfold growA
      rw [if_pos (by rw [bys_length, Nat.mul_one])]
      simp only
      rw [if_neg hn, if_pos ⟨by decide, by simp only [List.length_nil] at hl; omega⟩]
    · rw [List.nil_append, ← bys_length ms, List.take_length]
  · have hle : bs.length ≤ all.length := by
      have := congrArg List.length ht
      rw [List.length_take, bys_length] at this
      omega
    obtain ⟨H', q, e1, e2, e3, e4, e5⟩ := F.growN (E := E) (i := 0) (n := bs.length) (cap := cap) (sz := 1) (ex := ex) g (by omega) (bytes := 1) (m := ms.length) (bys ms) (by rw [bys_length, Nat.mul_one]) hn (bys_scalar ms) ⟨by decide, by omega⟩
    refine ⟨_, H', e1, .inr ⟨_, _, _, q, by rw [List.length_append], e3, ?_, by rw [List.length_append]; exact Nat.le_refl _⟩, Keeps.but e4 (fun _ h => h), e2, e5⟩
    rw [List.drop_zero, Nat.mul_one, ht, ← bys_append, ← bys_length (bs ++ ms), List.take_length]

theorem put_ok (F : Fine H) (h : Bs H b bs k) {m : AV} (hm : lenOfA m = some ms.length ∧ firstA E H 1 ms.length m = some (bys ms)) (h0 : ms ≠ []) (hl : bs.length + ms.length < 2 ^ 40) :
    FnX Try.prog E w0 41 [b, m] H fun v H' => Bs H' v (bs ++ ms) H.next ∧ Keeps (fun j => j ≠ k) H H' := by
  refine V41_ok ?_
  unfold V41
  obtain ⟨r, H1, e1, e2, e3, e4, e5⟩ := app_bytes F h hm h0 hl
  rw [e1, o2S]
  exact ⟨e2, e3⟩

theorem first_of {j : Nat} {pre : List Nat} {cap : Nat} {ex : Bool} (h : H.get j = some (.cells (bys ms) true pre)) : lenOfA (.slc (.new j) 0 ms.length cap ex 1) = some ms.length ∧ firstA E H 1 ms.length (.slc (.new j) 0 ms.length cap ex 1) = some (bys ms) := by
  refine ⟨rfl, ?_⟩
  unfold firstA
  simp only [Nat.mul_one, rangeOr, loadRange_new E h]
  split
  · rename_i hz; rw [List.length_eq_zero_iff.1 hz]; rfl
  · rw [if_pos (by rw [bys_length]; omega), List.drop_zero, ← bys_length ms, List.take_length]

theorem number_ok (F : Fine H) (h : Bs H b bs k) (h0 : bs ≠ []) {fv : AV} {lo hi n : Int} (hm : MayAt (fun j => j ≠ k) H fv lo hi) (hn : I64 n) {s : Nat} (h1 : 1 ≤ s) (h8 : s ≤ 8) (hl : bs.length + s < 2 ^ 40) :
    FnX Try.prog E w0 42 [b, .agg [.int .i64 (s : Int), fv], .int .i64 n] H fun v H' => ∃ r k', v = .tup [r, .bool (decide (lo ≤ n ∧ n ≤ hi))] ∧ Bs H' r (bs ++ fixS n s) k' ∧ H.next ≤ k' ∧ Keeps (fun j => j ≠ k) H H' := by
  refine V42_ok ?_
  unfold V42
  have hk := h.lt F h0
  obtain ⟨a1, a2, a3, F1⟩ := F.newCells [AV.int .i64 (s : Int), fv]
  have hcl : AV.cells (.agg [.int .i64 (s : Int), fv]) = [.int .i64 (s : Int), fv] := rfl
  have l0 : ∀ {H2 : AHeap}, Keeps (fun j => j ≠ k) (newCells H [AV.int .i64 (s : Int), fv]) H2 → loadV Try.prog E H2 79 (.ptr (.new H.next) 1) = some fv := fun hs => by
    rw [ld_79, loadCell_new E (hs _ _ _ (by simp only; omega) a1)]; rfl
  have l1 : loadV Try.prog E (newCells H [AV.int .i64 (s : Int), fv]) 3 (.ptr (.new H.next) 0) = some (.int .i64 s) := by rw [ld_3, loadCell_new E a1]; rfl
  simp only [wW, hcl, cv_2_114, oS, fa_81_0, fa_81_1, Nat.zero_add, Nat.add_zero, l1, true_and, u64_wrap, l0 Keeps.refl]
  refine (fixed_ok F1 (by omega) h1 h8).use ?_
  rintro v H2 ⟨j, pre, rfl, hj, g2, s2⟩ F2 n2
  rw [fixS_wrap _ h8] at g2
  have hfl := fixS_length n s
  have hfm := first_of (E := E) (cap := s) (ex := true) (ms := fixS n s) g2
  rw [hfl] at hfm
  refine (put_ok F2 (h.keep fun all pre hg => s2 _ _ _ (a2 _ _ _ hg)) (ms := fixS n s) (by rw [hfl]; exact hfm) (fun e => by rw [e] at hfl; simp at hfl; omega) (by omega)).use ?_
  rintro v H3 ⟨hb, k3⟩ F3 n3
  have kk : Keeps (fun j => j ≠ k) (newCells H [AV.int .i64 (s : Int), fv]) H3 := Keeps.trans (Keeps.of s2) k3 F1 (fun _ _ h => h)
  simp only [l0 kk, l0 (Keeps.of s2), oS, true_and, and_true]
  have k4 : Keeps (fun j => j ≠ k) H H3 := Keeps.trans (Keeps.of a2) kk F (fun _ _ h => h)
  refine may_ok (hm.keep k4) hn ?_
  exact ⟨_, _, rfl, hb, by omega, k4⟩
end

/-- A number behind an Op. -/
structure Fd where
  size : Nat
  lo : Int
  hi : Int
  deriving DecidableEq

/-- Fields. -/
def FieldsAt (X : Nat → Prop) (H : AHeap) (lv : AV) (l : List Fd) : Prop :=
  (lv = .nilSlc ∧ l = []) ∨ ∃ k cap ex all pre, lv = .slc (.new k) 0 l.length cap ex 2 ∧ H.get k = some (.cells all true pre) ∧ X k ∧
    ∀ j f, l[j]? = some f → ∃ fv, (all.drop (j * 2)).take 2 = [.int .i64 (f.size : Int), fv] ∧ MayAt X H fv f.lo f.hi
section
variable {H H' H1 : AHeap} {X Y : Nat → Prop} {lv : AV} {l : List Fd}
theorem FieldsAt.keep (h : FieldsAt X H lv l) (hk : Keeps X H H') : FieldsAt X H' lv l := by
  rcases h with h | ⟨k, cap, ex, all, pre, e, g, x, hf⟩
  · exact .inl h
  · refine .inr ⟨k, cap, ex, all, pre, e, hk _ _ _ x g, x, fun j f hj => ?_⟩
    obtain ⟨fv, a, b⟩ := hf j f hj
    exact ⟨fv, a, b.keep hk⟩
theorem FieldsAt.less (h : FieldsAt X H lv l) (F : Fine H) (hxy : ∀ k, k < H.next → X k → Y k) : FieldsAt Y H lv l := by
  rcases h with h | ⟨k, cap, ex, all, pre, e, g, x, hf⟩
  · exact .inl h
  · refine .inr ⟨k, cap, ex, all, pre, e, g, hxy _ (F.lt g) x, fun j f hj => ?_⟩
    obtain ⟨fv, a, b⟩ := hf j f hj
    exact ⟨fv, a, b.less F hxy⟩
theorem FieldsAt.len (h : FieldsAt X H lv l) (H2 : AHeap) : lenV Try.prog H2 75 lv = some (.int .i64 l.length) := by
  rcases h with ⟨rfl, rfl⟩ | ⟨k, cap, ex, all, pre, rfl, _⟩
  · exact len0_75 _
  · exact len_75 ..
/-- A field of theirs. -/
theorem FieldsAt.at (h : FieldsAt X H lv l) {j : Nat} {f : Fd} (hj : l[j]? = some f) : ∃ p fv, indexAtA Try.prog 75 lv (.int .i64 (j : Int)) = some p ∧ loadV Try.prog E H 81 p = some (.agg [.int .i64 (f.size : Int), fv]) ∧ MayAt X H fv f.lo f.hi := by
  have hlt : j < l.length := (List.getElem?_eq_some_iff.1 hj).1
  rcases h with ⟨rfl, rfl⟩ | ⟨k, cap, ex, all, pre, rfl, g, x, hf⟩
  · simp at hj
  · obtain ⟨fv, a, b⟩ := hf j f hj
    refine ⟨.ptr (.new k) (j * 2), fv, ?_, ?_, b⟩
    · rw [ix_75, if_pos ⟨by omega, by omega⟩]; simp
    · have hl := congrArg List.length a
      simp only [List.length_take, List.length_drop, List.length_cons, List.length_nil] at hl
      rw [ld_81, loadRange_new E g, if_pos (by omega), a]
      rfl
end
end Go.Proofs.Ytcboaonbfgjmgaa.op

/-
  Instructions: what stands behind an Op.
-/
open Go.Proofs Go Go.Am
namespace Go.Proofs.Ytcboaonbfgjmgaa.op
open Go.Proofs.Ytcboaonbfgjmgaa.vb
set_option linter.unusedVariables false
set_option linter.unusedSimpArgs false
set_option maxRecDepth 100000

variable {E : Env} {w0 : World}

def fIx : Fd := ⟨2, 0, 65535⟩
def fLeap : Fd := ⟨4, 0, 4294967295⟩
def fWid : Fd := ⟨1, 1, 3⟩
def lay3 (b : Bool) (op : Int) : Option (List Fd) :=
  if b then some [fLeap] else if op = 52 then some [⟨1, 0, 255⟩] else if op = 49 then some [fWid]
  else if 11 ≤ op ∧ op ≤ 28 then some [fWid] else if 1 ≤ op ∧ op ≤ 52 then some [] else none
def lay2 (b : Bool) (op : Int) : Option (List Fd) :=
  if b then some [⟨1, 1, 5⟩] else if op = 29 then some [fWid, fWid] else lay3 (op == 46 || op == 47 || op == 48) op
def lay1 (b : Bool) (op : Int) : Option (List Fd) := if b then some [fIx, fIx] else lay2 (op == 23 || op == 24) op
def lay0 (b : Bool) (op : Int) : Option (List Fd) := if b then some [fIx] else lay1 (op == 37 || op == 38) op
/-- What stands behind an Op. -/
def lay (op : Int) : Option (List Fd) :=
  if op = 1 then some [⟨1, fitLo 1, fitHi 1⟩] else if op = 2 then some [⟨4, fitLo 2, fitHi 2⟩] else if op = 3 then some [⟨8, fitLo 3, fitHi 3⟩]
  else lay0 (op == 6 || op == 7 || op == 8 || op == 50 || op == 36 || op == 39 || op == 40 || op == 41 || op == 42 || op == 43 || op == 44 || op == 45) op

theorem build_81n (n : Int) (a b : AV) : buildA Try.prog 81 [(0, .int .i64 n), (1, .fn (.func 68) [] [a, b])] = some (.agg [.int .i64 n, .fn (.func 68) [] [a, b]]) := by kernel_rfl
theorem build_81m (n : Int) (a : AV) : buildA Try.prog 81 [(0, .int .i64 n), (1, .fn (.func 69) [] [a])] = some (.agg [.int .i64 n, .fn (.func 69) [] [a]]) := by kernel_rfl
theorem build_81 {X : Nat → Prop} {H : AHeap} {fv : AV} {lo hi : Int} (h : MayAt X H fv lo hi) (n : Int) : buildA Try.prog 81 [(0, .int .i64 n), (1, fv)] = some (.agg [.int .i64 n, fv]) := by
  rcases h with ⟨k1, k2, p1, p2, rfl, _⟩ | ⟨k, p, w, rfl, _⟩
  · exact build_81n ..
  · exact build_81m ..
theorem bs_75 (H : AHeap) (a b : AV) : buildSliceA Try.prog H 75 1 [(0, .agg [a, b])] = some (.slc (.new H.next) 0 1 1 true 2, newCells H [a, b]) := by kernel_rfl
theorem bs2_75 (H : AHeap) (a b c d : AV) : buildSliceA Try.prog H 75 2 [(0, .agg [a, b]), (1, .agg [c, d])] = some (.slc (.new H.next) 0 2 2 true 2, newCells H [a, b, c, d]) := by kernel_rfl
theorem sz_81 {a b : AV} : sizeA Try.prog 81 = some (AV.cells (.agg [a, b])).length := by kernel_rfl

section
variable {H : AHeap} {X : Nat → Prop} {k4 k5 k6 : Nat}
/-- A field in a box. -/
def BoxAt (X : Nat → Prop) (H : AHeap) (k : Nat) (f : Fd) : Prop := ∃ fv pre, H.get k = some (.cells [.int .i64 (f.size : Int), fv] true pre) ∧ MayAt X H fv f.lo f.hi
theorem BoxAt.load {k : Nat} {f : Fd} (h : BoxAt X H k f) : ∃ fv, loadV Try.prog E H 81 (.ptr (.new k) 0) = some (.agg [.int .i64 (f.size : Int), fv]) ∧ MayAt X H fv f.lo f.hi := by
  obtain ⟨fv, pre, g, m⟩ := h
  refine ⟨fv, ?_, m⟩
  rw [ld_81, loadRange_new E g, if_pos (by simp)]
  rfl

/-- A slice of one field, and of two. -/
theorem one_field (F : Fine H) {f : Fd} {fv : AV} (m : MayAt X H fv f.lo f.hi) (hX : ∀ k, H.next ≤ k → X k) {K : AV → AHeap → Prop} (hK : ∀ lv H', FieldsAt X H' lv [f] → Stays H H' → K lv H') : opt2W (buildSliceA Try.prog H 75 1 [(0, .agg [.int .i64 (f.size : Int), fv])]) K := by
  rw [bs_75, o2S]
  obtain ⟨a, b, c, d⟩ := F.newCells [AV.int .i64 (f.size : Int), fv]
  refine hK _ _ (.inr ⟨H.next, 1, true, _, _, rfl, a, hX _ (Nat.le_refl _), fun j g hj => ?_⟩) b
  cases j with
  | zero => cases hj; exact ⟨fv, rfl, m.keep (Keeps.of b)⟩
  | succ j => simp at hj
theorem two_fields (F : Fine H) {f g : Fd} {fv gv : AV} (m : MayAt X H fv f.lo f.hi) (m2 : MayAt X H gv g.lo g.hi) (hX : ∀ k, H.next ≤ k → X k) {K : AV → AHeap → Prop} (hK : ∀ lv H', FieldsAt X H' lv [f, g] → Stays H H' → K lv H') :
    opt2W (buildSliceA Try.prog H 75 2 [(0, .agg [.int .i64 (f.size : Int), fv]), (1, .agg [.int .i64 (g.size : Int), gv])]) K := by
  rw [bs2_75, o2S]
  obtain ⟨a, b, c, d⟩ := F.newCells [AV.int .i64 (f.size : Int), fv, .int .i64 (g.size : Int), gv]
  refine hK _ _ (.inr ⟨H.next, 2, true, _, _, rfl, a, hX _ (Nat.le_refl _), fun j f' hj => ?_⟩) b
  cases j with
  | zero => cases hj; exact ⟨fv, rfl, m.keep (Keeps.of b)⟩
  | succ j =>
    cases j with
    | zero => cases hj; exact ⟨gv, rfl, m2.keep (Keeps.of b)⟩
    | succ j => simp at hj

variable (F : Fine H) (hX : ∀ k, H.next ≤ k → X k)
include F hX
theorem new_field {lo hi : Int} {s : Nat} {Q : AV → AHeap → Prop} (hQ : ∀ lv H', FieldsAt X H' lv [⟨s, lo, hi⟩] → Stays H H' → Q (.tup [lv, .bool true]) H') :
    FnX Try.prog E w0 45 [.int .i64 lo, .int .i64 hi] H fun v H1 => optW (buildA Try.prog 81 [(0, .int .i64 (s : Int)), (1, v)]) fun a => opt2W (buildSliceA Try.prog H1 75 1 [(0, a)]) fun lv H2 => Q (.tup [lv, .bool true]) H2 := by
  refine (between_ok F).use ?_
  rintro v H1 ⟨m, s1⟩ F1 n1
  rw [build_81 m, oS]
  exact one_field F1 (f := ⟨s, lo, hi⟩) (m.less F1 fun k _ hk => hX k hk) (fun k hk => hX k (by omega)) fun lv H' hf hs => hQ lv H' hf (stays_trans s1 hs)
theorem new_fits {w : Int} {s : Nat} {Q : AV → AHeap → Prop} (hQ : ∀ lv H', FieldsAt X H' lv [⟨s, fitLo w, fitHi w⟩] → Stays H H' → Q (.tup [lv, .bool true]) H') :
    FnX Try.prog E w0 46 [.int .u8 w] H fun v H1 => optW (buildA Try.prog 81 [(0, .int .i64 (s : Int)), (1, v)]) fun a => opt2W (buildSliceA Try.prog H1 75 1 [(0, a)]) fun lv H2 => Q (.tup [lv, .bool true]) H2 := by
  refine (fitsF_ok F).use ?_
  rintro v H1 ⟨m, s1⟩ F1 n1
  rw [build_81 m, oS]
  exact one_field F1 (f := ⟨s, fitLo w, fitHi w⟩) (m.less F1 fun k _ hk => hX k hk) (fun k hk => hX k (by omega)) fun lv H' hf hs => hQ lv H' hf (stays_trans s1 hs)
theorem box_field {k : Nat} {f : Fd} (hb : BoxAt X H k f) {Q : AV → AHeap → Prop} (hQ : ∀ lv H', FieldsAt X H' lv [f] → Stays H H' → Q (.tup [lv, .bool true]) H') :
    optW (loadV Try.prog E H 81 (.ptr (.new k) 0)) fun a => opt2W (buildSliceA Try.prog H 75 1 [(0, a)]) fun lv H2 => Q (.tup [lv, .bool true]) H2 := by
  obtain ⟨fv, l, m⟩ := hb.load (E := E)
  rw [l, oS]
  exact one_field F m hX hQ
theorem box_fields {k : Nat} {f : Fd} (hb : BoxAt X H k f) {Q : AV → AHeap → Prop} (hQ : ∀ lv H', FieldsAt X H' lv [f, f] → Stays H H' → Q (.tup [lv, .bool true]) H') :
    optW (loadV Try.prog E H 81 (.ptr (.new k) 0)) fun a => optW (loadV Try.prog E H 81 (.ptr (.new k) 0)) fun b => opt2W (buildSliceA Try.prog H 75 2 [(0, a), (1, b)]) fun lv H2 => Q (.tup [lv, .bool true]) H2 := by
  obtain ⟨fv, l, m⟩ := hb.load (E := E)
  rw [l, oS, oS]
  exact two_fields F m m hX hQ

theorem j3 (h5 : BoxAt X H k5 fLeap) (h6 : BoxAt X H k6 fWid) {op : Int} {b : Bool} {Q : AV → AHeap → Prop} (hQ : ∀ lv H', FieldsAt X H' lv ((lay3 b op).getD []) → Stays H H' → Q (.tup [lv, .bool (lay3 b op).isSome]) H') :
    J40_3 E w0 Q (.int .u8 op) (.ptr (.new k5) 0) (.ptr (.new k6) 0) (.int .u8 op) (.bool b) H := by
  unfold J40_3
  unfold lay3 at hQ
  cases b with
  | true => rw [cT]; exact box_field F hX h5 hQ
  | false =>
    rw [cF, eqv_5, oS, condW_bool]
    simp only [Bool.false_eq_true, if_false] at hQ
    refine ⟨fun h => ?_, fun h => ?_⟩
    · rw [if_pos (by simpa using h)] at hQ; exact new_field F hX hQ
    rw [if_neg (by simpa using h)] at hQ
    rw [eqv_5, oS, condW_bool]
    refine ⟨fun h => ?_, fun h => ?_⟩
    · rw [if_pos (by simpa using h)] at hQ; exact box_field F hX h6 hQ
    rw [if_neg (by simpa using h)] at hQ
    by_cases h1 : 11 ≤ op ∧ op ≤ 28
    · rw [if_pos h1] at hQ
      simp only [bin_geq, bin_leq, oS, dT (show op ≥ 11 from h1.1), dT h1.2, wB, btt, vT, pB, if_true, cT]
      exact box_field F hX h6 hQ
    rw [if_neg h1] at hQ
    have e1 : ∀ (T1 T2 : AV → AV → AV → Prop), (∀ a b c, T2 a b c) → optW (valG (wantsA (.bool (decide (op ≥ 11))) true) (some (.int .u8 op))) fun v73 => optW (valG (wantsA (.bool (decide (op ≥ 11))) true) (binA Try.prog .leq 5 v73 (.int .u8 28))) fun v74 => optW (pickV (.bool (decide (op ≥ 11))) v74 (.bool false)) fun v75 => condW v75 (T1 v73 v74 v75) (T2 v73 v74 v75) := by
      intro T1 T2 hT
      by_cases ha : op ≥ 11
      · simp only [dT ha, wB, btt, vT, oS, bin_leq, dF (show ¬ op ≤ 28 by omega), pB, if_true, cF]
        exact hT _ _ _
      · simp only [dF ha, wB, bft, vF, oS, pB, Bool.false_eq_true, if_false, cF]
        exact hT _ _ _
    rw [bin_geq, oS]
    refine e1 _ _ fun _ _ _ => ?_
    by_cases ha : op ≥ 1
    · by_cases hb : op ≤ 52
      · simp only [bin_geq, bin_leq, oS, dT ha, dT hb, wB, btt, vT, pB, if_true]
        rw [if_pos ⟨ha, hb⟩] at hQ
        exact hQ _ _ (.inl ⟨rfl, rfl⟩) (fun _ _ _ h => h)
      · simp only [bin_geq, bin_leq, oS, dT ha, dF hb, wB, btt, vT, pB, if_true]
        rw [if_neg (by omega)] at hQ
        exact hQ _ _ (.inl ⟨rfl, rfl⟩) (fun _ _ _ h => h)
    · simp only [bin_geq, oS, dF ha, wB, bft, vF, pB, Bool.false_eq_true, if_false]
      rw [if_neg (by omega)] at hQ
      exact hQ _ _ (.inl ⟨rfl, rfl⟩) (fun _ _ _ h => h)

theorem j2 (h5 : BoxAt X H k5 fLeap) (h6 : BoxAt X H k6 fWid) {op : Int} {b : Bool} {Q : AV → AHeap → Prop} (hQ : ∀ lv H', FieldsAt X H' lv ((lay2 b op).getD []) → Stays H H' → Q (.tup [lv, .bool (lay2 b op).isSome]) H') :
    J40_2 E w0 Q (.int .u8 op) (.ptr (.new k5) 0) (.ptr (.new k6) 0) (.int .u8 op) (.bool b) H := by
  unfold J40_2
  unfold lay2 at hQ
  cases b with
  | true => rw [cT]; exact new_field F hX hQ
  | false =>
    rw [cF, eqv_5, oS, condW_bool]
    simp only [Bool.false_eq_true, if_false] at hQ
    refine ⟨fun h => ?_, fun h => ?_⟩
    · rw [if_pos (by simpa using h)] at hQ; exact box_fields F hX h6 hQ
    rw [if_neg (by simpa using h)] at hQ
    simp only [eqv_5, oS, condW_bool]
    refine ⟨fun h => ?_, fun h => ⟨fun h' => ?_, fun h' => ?_⟩⟩
    · rw [h]; refine j3 F hX h5 h6 ?_; simpa [h] using hQ
    · rw [h']; refine j3 F hX h5 h6 ?_; simpa [h, h'] using hQ
    · refine j3 F hX h5 h6 ?_; simpa [h, h'] using hQ

theorem j1 (h4 : BoxAt X H k4 fIx) (h5 : BoxAt X H k5 fLeap) (h6 : BoxAt X H k6 fWid) {op : Int} {b : Bool} {Q : AV → AHeap → Prop} (hQ : ∀ lv H', FieldsAt X H' lv ((lay1 b op).getD []) → Stays H H' → Q (.tup [lv, .bool (lay1 b op).isSome]) H') :
    J40_1 E w0 Q (.int .u8 op) (.ptr (.new k4) 0) (.ptr (.new k5) 0) (.ptr (.new k6) 0) (.int .u8 op) (.bool b) H := by
  unfold J40_1
  unfold lay1 at hQ
  cases b with
  | true => rw [cT]; exact box_fields F hX h4 hQ
  | false =>
    rw [cF]
    simp only [Bool.false_eq_true, if_false] at hQ
    simp only [eqv_5, oS, condW_bool]
    refine ⟨fun h => ?_, fun h => ?_⟩
    · rw [h]; refine j2 F hX h5 h6 ?_; simpa [h] using hQ
    · refine j2 F hX h5 h6 ?_; simpa [h] using hQ

theorem j0 (h4 : BoxAt X H k4 fIx) (h5 : BoxAt X H k5 fLeap) (h6 : BoxAt X H k6 fWid) {op : Int} {b : Bool} {Q : AV → AHeap → Prop} (hQ : ∀ lv H', FieldsAt X H' lv ((lay0 b op).getD []) → Stays H H' → Q (.tup [lv, .bool (lay0 b op).isSome]) H') :
    J40_0 E w0 Q (.int .u8 op) (.ptr (.new k4) 0) (.ptr (.new k5) 0) (.ptr (.new k6) 0) (.int .u8 op) (.bool b) H := by
  unfold J40_0
  unfold lay0 at hQ
  cases b with
  | true => rw [cT]; exact box_field F hX h4 hQ
  | false =>
    rw [cF]
    simp only [Bool.false_eq_true, if_false] at hQ
    simp only [eqv_5, oS, condW_bool]
    refine ⟨fun h => ?_, fun h => ?_⟩
    · rw [h]; refine j1 F hX h4 h5 h6 ?_; simpa [h] using hQ
    · refine j1 F hX h4 h5 h6 ?_; simpa [h] using hQ
end

theorem two_scalar {n : Int} {fv : AV} (h : Am.scalar fv = true) : [AV.int .i64 n, fv].all Am.scalar = true := by
  simp only [List.all_cons, List.all_nil, h]
  rfl

theorem layout_ok {H : AHeap} (F : Fine H) {op : Int} : FnX Try.prog E w0 40 [.int .u8 op] H fun v H' => ∃ lv, v = .tup [lv, .bool (lay op).isSome] ∧ FieldsAt (fun k => H.next ≤ k) H' lv ((lay op).getD []) ∧ Stays H H' := by
  refine V40_ok ?_
  unfold V40
  refine (between_ok F).use ?_
  rintro v1 H1 ⟨m1, s1⟩ F1 n1
  rw [build_81 m1, oS]
  refine (between_ok F1).use ?_
  rintro v2 H2 ⟨m2, s2⟩ F2 n2
  rw [build_81 m2, oS, zero_81]
  obtain ⟨a1, a2, a3, F3⟩ := F2.newCells [AV.int .i64 0, .nilFn]
  have hz : AV.cells (.agg [.int .i64 0, .nilFn]) = [.int .i64 0, .nilFn] := rfl
  simp only [oS, wW, hz]
  obtain ⟨b1, b2, b3, F4⟩ := F3.newCells [AV.int .i64 0, .nilFn]
  generalize hH4 : newCells (newCells H2 [AV.int .i64 0, .nilFn]) [AV.int .i64 0, .nilFn] = H4 at *
  generalize hH3 : newCells H2 [AV.int .i64 0, .nilFn] = H3 at *
  have hc1 : AV.cells (.agg [.int .i64 2, v1]) = [.int .i64 2, v1] := rfl
  have hc2 : AV.cells (.agg [.int .i64 4, v2]) = [.int .i64 4, v2] := rfl
  obtain ⟨H5, c1, c2, c3, c4, F5⟩ := F4.stores (b2 _ _ _ a1) (n := 0) (vs := [.int .i64 2, v1]) (by simp) (by simp) (two_scalar m1.scalar)
  refine storesW sz_81 (by rw [hc1]; exact c1) ?_
  rw [setMany_all (by rfl)] at c2
  have b1' : H5.get H3.next = some (.cells [.int .i64 0, .nilFn] true []) := c3 _ _ _ (by omega) b1
  obtain ⟨H6, d1, d2, d3, d4, F6⟩ := F5.stores b1' (n := 0) (vs := [.int .i64 4, v2]) (by simp) (by simp) (two_scalar m2.scalar)
  refine storesW sz_81 (by rw [hc2]; exact d1) ?_
  rw [setMany_all (by rfl)] at d2
  have c2' : H6.get H2.next = some (.cells [.int .i64 2, v1] true []) := d3 _ _ _ (by omega) c2
  have s26 : Stays H2 H6 := fun k all pre hk => d3 _ _ _ (by have := F2.lt hk; omega) (c3 _ _ _ (by have := F2.lt hk; omega) (b2 _ _ _ (a2 _ _ _ hk)))
  refine (between_ok F6).use ?_
  rintro v3 H7 ⟨m3, s7⟩ F7 n7
  rw [build_81 m3, oS]
  obtain ⟨e1, e2, e3, F8⟩ := F7.newCells [AV.int .i64 0, .nilFn]
  generalize hH8 : newCells H7 [AV.int .i64 0, .nilFn] = H8 at *
  have hc3 : AV.cells (.agg [.int .i64 1, v3]) = [.int .i64 1, v3] := rfl
  obtain ⟨H9, f1, f2, f3, f4, F9⟩ := F8.stores e1 (n := 0) (vs := [.int .i64 1, v3]) (by simp) (by simp) (two_scalar m3.scalar)
  refine storesW sz_81 (by rw [hc3]; exact f1) ?_
  rw [setMany_all (by rfl)] at f2
  have s79 : Stays H7 H9 := fun k all pre hk => f3 _ _ _ (by have := F7.lt hk; omega) (e2 _ _ _ hk)
  have s69 : Stays H6 H9 := stays_trans s7 s79
  have s29 : Stays H2 H9 := stays_trans s26 s69
  have s09 : Stays H H9 := stays_trans s1 (stays_trans s2 s29)
  have hX : ∀ k, H9.next ≤ k → (fun k => H.next ≤ k) k := fun k hk => by simp only; omega
  have k4 : BoxAt (fun k => H.next ≤ k) H9 H2.next fIx := ⟨v1, _, s69 _ _ _ c2', (m1.keep (Keeps.of (stays_trans s2 s29)))⟩
  have k5 : BoxAt (fun k => H.next ≤ k) H9 H3.next fLeap := ⟨v2, _, s69 _ _ _ d2, (m2.keep (Keeps.of s29)).less F9 fun k _ hk => show H.next ≤ k by have : H1.next ≤ k := hk; omega⟩
  have k6 : BoxAt (fun k => H.next ≤ k) H9 H7.next fWid := ⟨v3, _, f2, (m3.keep (Keeps.of s79)).less F9 fun k _ hk => show H.next ≤ k by have : H6.next ≤ k := hk; omega⟩
  have hQ : ∀ lv H', FieldsAt (fun k => H.next ≤ k) H' lv ((lay op).getD []) → Stays H9 H' → ∃ lv', (AV.tup [lv, .bool (lay op).isSome]) = .tup [lv', .bool (lay op).isSome] ∧ FieldsAt (fun k => H.next ≤ k) H' lv' ((lay op).getD []) ∧ Stays H H' :=
    fun lv H' h s => ⟨lv, rfl, h, stays_trans s09 s⟩
  rw [eqv_5, oS, condW_bool]
  refine ⟨fun h => ?_, fun h => ?_⟩
  · have e : lay op = some [⟨1, fitLo 1, fitHi 1⟩] := by unfold lay; rw [if_pos (by simpa using h)]
    rw [e]
    simp only [Option.isSome_some, Option.getD_some]
    exact new_fits F9 hX (w := 1) (s := 1) (Q := fun v H' => ∃ lv, v = .tup [lv, .bool true] ∧ FieldsAt (fun k => H.next ≤ k) H' lv [⟨1, fitLo 1, fitHi 1⟩] ∧ Stays H H') fun lv H' h s => ⟨lv, rfl, h, stays_trans s09 s⟩
  have g1 : ¬ op = 1 := by simpa using h
  rw [eqv_5, oS, condW_bool]
  refine ⟨fun h => ?_, fun h => ?_⟩
  · have e : lay op = some [⟨4, fitLo 2, fitHi 2⟩] := by unfold lay; rw [if_neg g1, if_pos (by simpa using h)]
    rw [e]
    simp only [Option.isSome_some, Option.getD_some]
    exact new_fits F9 hX (w := 2) (s := 4) (Q := fun v H' => ∃ lv, v = .tup [lv, .bool true] ∧ FieldsAt (fun k => H.next ≤ k) H' lv [⟨4, fitLo 2, fitHi 2⟩] ∧ Stays H H') fun lv H' h s => ⟨lv, rfl, h, stays_trans s09 s⟩
  have g2 : ¬ op = 2 := by simpa using h
  rw [eqv_5, oS, condW_bool]
  refine ⟨fun h => ?_, fun h => ?_⟩
  · have e : lay op = some [⟨8, fitLo 3, fitHi 3⟩] := by unfold lay; rw [if_neg g1, if_neg g2, if_pos (by simpa using h)]
    rw [e]
    simp only [Option.isSome_some, Option.getD_some]
    exact new_fits F9 hX (w := 3) (s := 8) (Q := fun v H' => ∃ lv, v = .tup [lv, .bool true] ∧ FieldsAt (fun k => H.next ≤ k) H' lv [⟨8, fitLo 3, fitHi 3⟩] ∧ Stays H H') fun lv H' h s => ⟨lv, rfl, h, stays_trans s09 s⟩
  have g3 : ¬ op = 3 := by simpa using h
  have e : lay op = lay0 (op == 6 || op == 7 || op == 8 || op == 50 || op == 36 || op == 39 || op == 40 || op == 41 || op == 42 || op == 43 || op == 44 || op == 45) op := by unfold lay; rw [if_neg g1, if_neg g2, if_neg g3]
  rw [e] at hQ ⊢
  generalize hb : (op == 6 || op == 7 || op == 8 || op == 50 || op == 36 || op == 39 || op == 40 || op == 41 || op == 42 || op == 43 || op == 44 || op == 45) = b at hQ ⊢
  have fin : ∀ c : Bool, c = b → J40_0 E w0 (fun v H' => ∃ lv, v = .tup [lv, .bool (lay0 b op).isSome] ∧ FieldsAt (fun k => H.next ≤ k) H' lv ((lay0 b op).getD []) ∧ Stays H H') (.int .u8 op) (.ptr (.new H2.next) 0) (.ptr (.new H3.next) 0) (.ptr (.new H7.next) 0) (.int .u8 op) (.bool c) H9 := by
    rintro c rfl
    exact j0 F9 hX k4 k5 k6 hQ
  simp only [eqv_5, oS, condW_bool]
  refine ⟨fun h => fin _ (by rw [← hb]; simp [h]), fun h1 => ⟨fun h => fin _ (by rw [← hb]; simp [h]), fun h2 => ⟨fun h => fin _ (by rw [← hb]; simp [h]), fun h3 => ⟨fun h => fin _ (by rw [← hb]; simp [h]), fun h4 => ⟨fun h => fin _ (by rw [← hb]; simp [h]), fun h5 => ⟨fun h => fin _ (by rw [← hb]; simp [h]), fun h6 =>
    ⟨fun h => fin _ (by rw [← hb]; simp [h]), fun h7 => ⟨fun h => fin _ (by rw [← hb]; simp [h]), fun h8 => ⟨fun h => fin _ (by rw [← hb]; simp [h]), fun h9 => ⟨fun h => fin _ (by rw [← hb]; simp [h]), fun h10 => ⟨fun h => fin _ (by rw [← hb]; simp [h]), fun h11 => fin _ (by rw [← hb]; simp [h1, h2, h3, h4, h5, h6, h7, h8, h9, h10, h11])⟩⟩⟩⟩⟩⟩⟩⟩⟩⟩⟩
end Go.Proofs.Ytcboaonbfgjmgaa.op

/-
  Instructions: arms, Encode, Size.
-/
open Go.Proofs Go Go.Am
namespace Go.Proofs.Ytcboaonbfgjmgaa.op
open Go.Proofs.Ytcboaonbfgjmgaa.vb
set_option linter.unusedVariables false
set_option linter.unusedSimpArgs false
set_option maxRecDepth 100000

variable {E : Env} {w0 : World}

/-- An arm's cells. -/
def armc (x : Int × Int) : List AV := [.int .i64 x.1, .int .i64 x.2]
/-- A slice of arms. -/
def ArmsAt (E : Env) (X : Nat → Prop) (H : AHeap) (av : AV) (arms : List (Int × Int)) : Prop :=
  (av = .nilSlc ∧ arms = []) ∨ ∃ o i cap ex sz, av = .slc o i arms.length cap ex sz ∧
    ((∃ b cs, o = .old b ∧ (arms = [] ∨ E b = some cs) ∧ ∀ j x, arms[j]? = some x → (cs.drop (i + j * 2)).take 2 = armc x) ∨ (∃ k all pre, o = .new k ∧ X k ∧ H.get k = some (.cells all true pre) ∧ ∀ j x, arms[j]? = some x → (all.drop (i + j * 2)).take 2 = armc x))
section
variable {H H' : AHeap} {X Y : Nat → Prop} {av : AV} {arms : List (Int × Int)}
theorem ArmsAt.keep (h : ArmsAt E X H av arms) (hk : Keeps X H H') : ArmsAt E X H' av arms := by
  rcases h with h | ⟨o, i, cap, ex, sz, e, h | ⟨k, all, pre, a, b, c, d⟩⟩
  · exact .inl h
  · exact .inr ⟨o, i, cap, ex, sz, e, .inl h⟩
  · exact .inr ⟨o, i, cap, ex, sz, e, .inr ⟨k, all, pre, a, b, hk _ _ _ b c, d⟩⟩
theorem ArmsAt.less (h : ArmsAt E X H av arms) (F : Fine H) (hxy : ∀ k, k < H.next → X k → Y k) : ArmsAt E Y H av arms := by
  rcases h with h | ⟨o, i, cap, ex, sz, e, h | ⟨k, all, pre, a, b, c, d⟩⟩
  · exact .inl h
  · exact .inr ⟨o, i, cap, ex, sz, e, .inl h⟩
  · exact .inr ⟨o, i, cap, ex, sz, e, .inr ⟨k, all, pre, a, hxy _ (F.lt c) b, c, d⟩⟩
theorem ArmsAt.len (h : ArmsAt E X H av arms) (H2 : AHeap) : lenV Try.prog H2 22 av = some (.int .i64 arms.length) := by
  rcases h with ⟨rfl, rfl⟩ | ⟨o, i, cap, ex, sz, rfl, _⟩
  · exact len0_22 _
  · exact len_22 ..
theorem take2 {l : List AV} {i : Nat} {x : Int × Int} (h : (l.drop i).take 2 = armc x) : i + 2 ≤ l.length ∧ l[i]? = some (.int .i64 x.1) ∧ l[i + 1]? = some (.int .i64 x.2) := by
  have hl := congrArg List.length h
  simp only [List.length_take, List.length_drop, armc, List.length_cons, List.length_nil] at hl
  have a := congrArg (fun l => l[0]?) h
  have b := congrArg (fun l => l[1]?) h
  simp [armc] at a b
  exact ⟨by omega, a, b⟩
theorem ArmsAt.at (h : ArmsAt E X H av arms) {j : Nat} {x : Int × Int} (hj : arms[j]? = some x) : ∃ o i, indexAtA Try.prog 22 av (.int .i64 (j : Int)) = some (.ptr o i) ∧ loadRange E H o i 2 = some (armc x) ∧ loadCell E H o i = some (.int .i64 x.1) ∧ loadCell E H o (i + 1) = some (.int .i64 x.2) := by
  have hlt : j < arms.length := (List.getElem?_eq_some_iff.1 hj).1
  rcases h with ⟨rfl, rfl⟩ | ⟨o, i, cap, ex, sz, rfl, ⟨b, cs, rfl, hE, hc⟩ | ⟨k, all, pre, rfl, hx, hg, hc⟩⟩
  · simp at hj
  · have hE : E b = some cs := hE.resolve_left (fun e => by rw [e] at hlt; simp at hlt)
    obtain ⟨t1, t2, t3⟩ := take2 (hc j x hj)
    refine ⟨.old b, i + j * 2, ?_, ?_, ?_, ?_⟩
    · rw [ix_22, if_pos ⟨by omega, by omega⟩]; simp
    · simp only [loadRange, cellsOf, hE]
      rw [if_pos (by omega), hc j x hj]
    · simp only [loadCell, cellsOf, hE]; exact t2
    · simp only [loadCell, cellsOf, hE]; exact t3
  · obtain ⟨t1, t2, t3⟩ := take2 (hc j x hj)
    refine ⟨.new k, i + j * 2, ?_, ?_, ?_, ?_⟩
    · rw [ix_22, if_pos ⟨by omega, by omega⟩]; simp
    · rw [loadRange_new E hg, if_pos (by omega), hc j x hj]
    · rw [loadCell_new E hg]; exact t2
    · rw [loadCell_new E hg]; exact t3
end

/-- An instruction. -/
structure In where
  op : Int
  a : Int
  b : Int
  av : AV
  arms : List (Int × Int)
def In.cells (x : In) : List AV := [.int .u8 x.op, .int .i64 x.a, .int .i64 x.b, x.av]
structure In.Ok (x : In) : Prop where
  op : 0 ≤ x.op ∧ x.op ≤ 255
  a : I64 x.a
  b : I64 x.b
  arms : ∀ y ∈ x.arms, I64 y.1 ∧ I64 y.2
  short : x.arms.length < 2 ^ 44

def Fd.may (f : Fd) (n : Int) : Bool := decide (f.lo ≤ n ∧ n ≤ f.hi)
def In.num (x : In) (i : Nat) : Int := if i = 1 then x.b else x.a
def fldB (x : In) : Nat → List Fd → List Int
  | _, [] => []
  | i, f :: l => fixS (x.num i) f.size ++ fldB x (i + 1) l
def fldOk (x : In) : Nat → List Fd → Bool
  | _, [] => true
  | i, f :: l => f.may (x.num i) && fldOk x (i + 1) l
def armB (y : Int × Int) : List Int := fixS y.1 8 ++ fixS y.2 4
def armOk (w : Int) (y : Int × Int) : Bool := decide (fitLo w ≤ y.1 ∧ y.1 ≤ fitHi w) && decide (0 ≤ y.2 ∧ y.2 ≤ 4294967295)
/-- Is it an instruction? -/
def isS (x : In) : Bool :=
  (lay x.op).isSome && fldOk x 0 ((lay x.op).getD []) &&
    if x.op = 49 then decide (x.arms.length ≤ 65535) && x.arms.all (armOk (IntKind.u8.wrap x.a)) && decide (0 ≤ x.b ∧ x.b ≤ 4294967295)
    else decide (x.arms.length = 0) && (decide (2 ≤ ((lay x.op).getD []).length) || decide (x.b = 0)) && (decide (1 ≤ ((lay x.op).getD []).length) || decide (x.a = 0))
def armsB (arms : List (Int × Int)) : List Int := arms.flatMap armB
/-- Its bytes. -/
def encB (x : In) : List Int := x.op :: fldB x 0 ((lay x.op).getD []) ++ if x.op = 49 then fixS x.arms.length 2 ++ armsB x.arms ++ fixS x.b 4 else []

def goodLay (l : Option (List Fd)) : Bool := (l.getD []).all (fun f => decide (1 ≤ f.size ∧ f.size ≤ 8)) && decide ((l.getD []).length ≤ 2)
theorem good_ite {c : Prop} [Decidable c] {a b : Option (List Fd)} (ha : goodLay a = true) (hb : goodLay b = true) : goodLay (if c then a else b) = true := by
  by_cases h : c
  · rw [if_pos h]; exact ha
  · rw [if_neg h]; exact hb
theorem lay_good (op : Int) : goodLay (lay op) = true := by
  unfold lay lay0 lay1 lay2 lay3
  repeat' apply good_ite
  all_goals rfl
theorem lay_size {op : Int} : ∀ f ∈ (lay op).getD [], 1 ≤ f.size ∧ f.size ≤ 8 := by
  have h := lay_good op
  simp only [goodLay, Bool.and_eq_true, List.all_eq_true, decide_eq_true_eq] at h
  exact h.1
theorem lay_length {op : Int} : ((lay op).getD []).length ≤ 2 := by
  have h := lay_good op
  simp only [goodLay, Bool.and_eq_true, List.all_eq_true, decide_eq_true_eq] at h
  exact h.2
theorem lay_switch : lay 49 = some [fWid] := rfl

theorem armsB_length : ∀ l : List (Int × Int), (armsB l).length = 12 * l.length
  | [] => rfl
  | y :: l => by
    have := armsB_length l
    simp only [armsB, List.flatMap_cons, List.length_append, armB, fixS_length, List.length_cons] at this ⊢
    omega

theorem zero49 : AV.cells (.agg [.int .i64 0, .int .i64 0]) = [.int .i64 0, .int .i64 0] := rfl
theorem zero81 : AV.cells (.agg [.int .i64 0, .nilFn]) = [.int .i64 0, .nilFn] := rfl
theorem sz_49 {a b : AV} : sizeA Try.prog 49 = some (AV.cells (.agg [a, b])).length := by kernel_rfl

section
variable {H H' H1 : AHeap} {X Y : Nat → Prop} {bs : List Int} {v b : AV} {k : Nat}

theorem BoxAt.keep {f : Fd} {q : Nat} (h : BoxAt X H q f) (hk : Keeps X H H') (hq : X q) : BoxAt X H' q f := by
  obtain ⟨fv, pre, g, m⟩ := h
  exact ⟨fv, pre, hk _ _ _ hq g, m.keep hk⟩
theorem BoxAt.less {f : Fd} {q : Nat} (h : BoxAt X H q f) (F : Fine H) (hxy : ∀ k, k < H.next → X k → Y k) : BoxAt Y H q f := by
  obtain ⟨fv, pre, g, m⟩ := h
  exact ⟨fv, pre, g, m.less F hxy⟩

/-- A new box for a field. -/
theorem box_new (F : Fine H) {s : Nat} {fv : AV} {lo hi : Int} (m : MayAt X H fv lo hi) {K : AV → AHeap → Prop} (hK : ∀ H', Fine H' → Stays H H' → H'.next = H.next + 1 → BoxAt X H' H.next ⟨s, lo, hi⟩ → K (.ptr (.new H.next) 0) H') :
    optW (zeroOf Try.prog 81) fun z => withW (.ptr (.new H.next) 0) (newCells H (AV.cells z)) fun p H1 => storeW Try.prog H1 81 p (.agg [.int .i64 (s : Int), fv]) fun _ H2 => K p H2 := by
  rw [zero_81, oS, wW, zero81]
  obtain ⟨a1, a2, a3, F1⟩ := F.newCells [AV.int .i64 0, .nilFn]
  obtain ⟨H2, c1, c2, c3, c4, F2⟩ := F1.stores a1 (n := 0) (vs := [.int .i64 (s : Int), fv]) (by simp) (by simp) (two_scalar m.scalar)
  rw [setMany_all (by rfl)] at c2
  refine storesW sz_81 c1 ?_
  have s2 : Stays H H2 := fun k all pre hk => c3 _ _ _ (by have := F.lt hk; omega) (a2 _ _ _ hk)
  exact hK H2 F2 s2 (by omega) ⟨fv, _, c2, m.keep (Keeps.of s2)⟩

theorem arms_ok (F : Fine H) {x : In} (ho : x.Ok) (h : Bs H b bs k) (h0 : bs ≠ []) (hl : bs.length < 2 ^ 30) (ha : ArmsAt E (fun j => j ≠ k) H x.av x.arms) :
    FnX Try.prog E w0 43 [b, .agg x.cells] H fun v H' => Keeps (fun j => j ≠ k) H H' ∧ if x.arms.length ≤ 65535 then
      ∃ r k', v = .tup [r, .bool (x.arms.all (armOk (IntKind.u8.wrap x.a)) && decide (0 ≤ x.b ∧ x.b ≤ 4294967295))] ∧ Bs H' r (bs ++ (fixS x.arms.length 2 ++ armsB x.arms ++ fixS x.b 4)) k' ∧ H.next ≤ k'
      else v = .tup [.nilSlc, .bool false] := by
  refine V43_ok ?_
  unfold V43
  have hk := h.lt F h0
  have hcl : AV.cells (.agg x.cells) = x.cells := rfl
  obtain ⟨a1, a2, a3, F1⟩ := F.newCells x.cells
  rw [wW, hcl]
  generalize hH1 : newCells H x.cells = H1 at *
  refine (between_ok F1).use ?_
  rintro v2 H2 ⟨m2, s2⟩ F2 n2
  rw [build_81 m2, oS]
  refine box_new F2 (s := 4) m2 fun H3 F3 s3 n3 b3 => ?_
  have s03 : Stays H H3 := stays_trans a2 (stays_trans s2 s3)
  have cells : ∀ {H' : AHeap}, H'.get H.next = some (.cells x.cells true []) → loadV Try.prog E H' 2 (.ptr (.new H.next) 1) = some (.int .i64 x.a) ∧ loadV Try.prog E H' 2 (.ptr (.new H.next) 2) = some (.int .i64 x.b) ∧ loadV Try.prog E H' 22 (.ptr (.new H.next) 3) = some x.av := fun hg =>
    ⟨by rw [ld_2, loadCell_new E hg]; rfl, by rw [ld_2, loadCell_new E hg]; rfl, by rw [ld_22, loadCell_new E hg]; rfl⟩
  have g3 : H3.get H.next = some (.cells x.cells true []) := s3 _ _ _ (s2 _ _ _ a1)
  simp only [fa_24_1, fa_24_2, fa_24_3, oS, Nat.zero_add, (cells g3).1, cv_2_5]
  refine (fitsF_ok F3).use ?_
  rintro v4 H4 ⟨m4, s4⟩ F4 n4
  rw [build_81 m4, oS]
  refine box_new F4 (s := 8) m4 fun H5 F5 s5 n5 b5 => ?_
  have s35 : Stays H3 H5 := stays_trans s4 s5
  have s05 : Stays H H5 := stays_trans s03 s35
  have g5 : H5.get H.next = some (.cells x.cells true []) := s35 _ _ _ g3
  simp only [fa_24_3, oS, Nat.zero_add, (cells g5).2.2, ha.len, bin_gtr]
  by_cases hlen : (x.arms.length : Int) > 65535
  · simp only [dT hlen, cT]
    rw [if_neg (by omega)]
    exact ⟨Keeps.of s05, by trivial⟩
  have hlen' : x.arms.length ≤ 65535 := by omega
  simp only [dF hlen, cF, cv_3_114, oS, hlen', if_true]
  rw [wrap_u64 (by omega) (by omega)]
  refine (fixed_ok F5 (s := 2) (by omega) (by omega) (by omega)).use ?_
  rintro v6 H6 ⟨j6, p6, rfl, e6, g6, s6⟩ F6 n6
  have s06 : Stays H H6 := stays_trans s05 s6
  have hfm := first_of (E := E) (cap := 2) (ex := true) (ms := fixS x.arms.length 2) g6
  rw [fixS_length] at hfm
  have hne : fixS (x.arms.length : Int) 2 ≠ [] := fun e => by have := fixS_length (x.arms.length : Int) 2; rw [e] at this; simp at this
  refine (put_ok F6 (h.keep fun all pre hg => s06 _ _ _ hg) (ms := fixS x.arms.length 2) (by rw [fixS_length]; exact hfm) hne (by rw [fixS_length]; omega)).use ?_
  rintro v7 H7 ⟨B7, k7⟩ F7 n7
  -- what stays from H5 on
  obtain ⟨X6, hX6⟩ : ∃ X6 : Nat → Prop, X6 = fun j => j ≠ k ∧ j < H5.next := ⟨_, rfl⟩
  have x6 : ∀ j, X6 j ↔ j ≠ k ∧ j < H5.next := fun j => by rw [hX6]
  have k57 : Keeps X6 H5 H7 := Keeps.trans (Keeps.of s6) k7 F5 fun j _ hj => ((x6 j).1 hj).1
  have xh : X6 H.next := (x6 _).2 ⟨by omega, by omega⟩
  have xl : X6 H2.next := (x6 _).2 ⟨by omega, by omega⟩
  have xw : X6 H4.next := (x6 _).2 ⟨by omega, by omega⟩
  have g7 : H7.get H.next = some (.cells x.cells true []) := k57 _ _ _ xh g5
  simp only [fa_24_3, oS, Nat.zero_add, (cells g7).2.2, ha.len]
  have L7 : BoxAt X6 H7 H2.next fLeap := ((b3.less F3 fun j hj (h : H1.next ≤ j) => (x6 j).2 ⟨by omega, by omega⟩).keep (Keeps.of s35) xl).keep k57 xl
  have W7 : BoxAt X6 H7 H4.next ⟨8, fitLo (IntKind.u8.wrap x.a), fitHi (IntKind.u8.wrap x.a)⟩ := (b5.less F5 fun j hj (h : H3.next ≤ j) => (x6 j).2 ⟨by omega, by omega⟩).keep k57 xw
  have A7 : ArmsAt E X6 H7 x.av x.arms := ((ha.less F fun j hj h => (x6 j).2 ⟨h, by omega⟩).keep (Keeps.of s05)).keep k57
  have K07 : Keeps (fun j => j ≠ k) H H7 := Keeps.trans (Keeps.of s05) k57 F fun j hj h => (x6 j).2 ⟨h, by omega⟩
  refine loop43_0 (I := fun n t0 t3 t6 t7 t8 t33 t34 t35 H' => t3 = .ptr (.new H.next) 0 ∧ t6 = .ptr (.new H2.next) 0 ∧ t7 = .ptr (.new H4.next) 0 ∧ x.av = t33 ∧ t34 = .int .i64 (x.arms.length : Int) ∧
      ∃ (i k' : Nat) (done : List Int) (ok : Bool), t35 = .int .i64 (i : Int) ∧ i + n = x.arms.length ∧ t8 = .bool ok ∧ Fine H' ∧ H7.next ≤ H'.next ∧ Bs H' t0 (bs ++ fixS x.arms.length 2 ++ done) k' ∧ H6.next ≤ k' ∧ done.length = 12 * i ∧ done ++ armsB (x.arms.drop i) = armsB x.arms ∧
        (ok && (x.arms.drop i).all (armOk (IntKind.u8.wrap x.a))) = x.arms.all (armOk (IntKind.u8.wrap x.a)) ∧ Keeps X6 H7 H') ?_ (n := x.arms.length)
    ⟨rfl, rfl, rfl, rfl, rfl, 0, H6.next, [], true, rfl, by omega, rfl, F7, Nat.le_refl _, by simpa using B7, Nat.le_refl _, rfl, rfl, by simp, Keeps.refl⟩
  rintro n t0 _ _ _ _ _ _ _ H8 ⟨rfl, rfl, rfl, rfl, rfl, i, k8, done, ok, rfl, hi, rfl, F8, n8, B8, hk8, hd, hdone, hok, K8⟩
  intros
  unfold B43_0
  have x68 : ∀ {q : Nat}, H6.next ≤ q → ∀ j, X6 j → j ≠ q := fun hq j hj => by have := ((x6 j).1 hj).2; omega
  have hne8 : bs ++ fixS x.arms.length 2 ++ done ≠ [] := fun e => by have := congrArg List.length e; rw [List.length_append, List.length_append, fixS_length] at this; simp at this
  have hk8lt := B8.lt F8 hne8
  rw [bin_lss, oS, condW_bool]
  refine ⟨fun hlt => ?_, fun hge => ?_⟩
  · have hlt : i < x.arms.length := by have := of_decide_eq_true hlt; omega
    obtain ⟨o, q, e1, e2, e3, e4⟩ := (A7.keep K8).at (List.getElem?_eq_getElem hlt)
    have e2 : loadV Try.prog E H8 49 (.ptr o q) = some (.agg (armc x.arms[i])) := by rw [ld_49, e2]; rfl
    rw [e1, oS, e2, oS, zero_49, oS, wW, zero49]
    obtain ⟨y, hy⟩ : ∃ y, y = x.arms[i] := ⟨_, rfl⟩
    rw [← hy]
    have hyr := ho.arms y (by rw [hy]; exact List.getElem_mem _)
    obtain ⟨a1, a2, a3, F9⟩ := F8.newCells [AV.int .i64 0, .int .i64 0]
    obtain ⟨H10, c1, c2, c3, c4, F10⟩ := F9.stores a1 (n := 0) (vs := armc y) (by simp [armc]) (by simp [armc]) (by rfl)
    rw [setMany_all (by rfl)] at c2
    refine storesW sz_49 c1 ?_
    have s10 : Stays H8 H10 := fun k all pre hk => c3 _ _ _ (by have := F8.lt hk; omega) (a2 _ _ _ hk)
    have K10 : Keeps X6 H7 H10 := Keeps.trans K8 (Keeps.of s10) F7 (fun _ _ h => h)
    obtain ⟨wv, w1, w2⟩ := (W7.keep K10 xw).load (E := E)
    have y0 : loadV Try.prog E H10 2 (.ptr (.new H8.next) 0) = some (.int .i64 y.1) := by rw [ld_2, loadCell_new E c2]; rfl
    rw [w1, oS, fa_49_0, oS, Nat.zero_add, y0, oS]
    have hbl : (bs ++ fixS x.arms.length 2 ++ done).length < 2 ^ 32 := by rw [List.length_append, List.length_append, fixS_length]; omega
    refine (number_ok F10 (B8.keep fun all pre hg => s10 _ _ _ hg) hne8 (w2.less F10 fun j _ hj => x68 hk8 j hj) hyr.1 (s := 8) (by omega) (by omega) (by omega)).use ?_
    rintro v11 H11 ⟨r11, k11, rfl, B11, hk11, K11⟩ F11 n11
    simp only [ex0, ex1, oS]
    have K11' : Keeps X6 H7 H11 := Keeps.trans K10 K11 F7 (fun j _ hj => x68 hk8 j hj)
    obtain ⟨lv, l1, l2⟩ := (L7.keep K11' xl).load (E := E)
    have c2' : H11.get H8.next = some (.cells (armc y) true []) := K11 _ _ _ (by simp only; omega) c2
    have y1 : loadV Try.prog E H11 3 (.ptr (.new H8.next) 1) = some (.int .i64 y.2) := by rw [ld_3, loadCell_new E c2']; rfl
    rw [l1, oS, fa_49_1, oS, Nat.zero_add, y1, oS]
    have hne11 : bs ++ fixS x.arms.length 2 ++ done ++ fixS y.1 8 ≠ [] := fun e => hne8 (List.append_eq_nil_iff.1 e).1
    refine (number_ok F11 B11 hne11 (l2.less F11 fun j _ hj => x68 (show H6.next ≤ k11 by omega) j hj) hyr.2 (s := 4) (by omega) (by omega) (by rw [List.length_append, fixS_length]; omega)).use ?_
    rintro v12 H12 ⟨r12, k12, rfl, B12, hk12, K12⟩ F12 n12
    simp only [ex0, ex1, oS]
    have K12' : Keeps X6 H7 H12 := Keeps.trans K11' K12 F7 (fun j _ hj => x68 (show H6.next ≤ k11 by omega) j hj)
    have hok2 : ((ok && decide (fitLo (IntKind.u8.wrap x.a) ≤ y.1 ∧ y.1 ≤ fitHi (IntKind.u8.wrap x.a)) && decide (0 ≤ y.2 ∧ y.2 ≤ 4294967295)) && (x.arms.drop (i + 1)).all (armOk (IntKind.u8.wrap x.a))) = x.arms.all (armOk (IntKind.u8.wrap x.a)) := by
      rw [← hok, List.drop_eq_getElem_cons hlt, List.all_cons, ← hy]
      simp only [armOk, Bool.and_assoc]
    have fin : ∀ c : Bool, c = (ok && decide (fitLo (IntKind.u8.wrap x.a) ≤ y.1 ∧ y.1 ≤ fitHi (IntKind.u8.wrap x.a)) && decide (0 ≤ y.2 ∧ y.2 ≤ 4294967295)) →
        ∃ (i' k' : Nat) (done : List Int) (ok : Bool), (AV.int .i64 (IntKind.i64.wrap ((i : Int) + 1))) = .int .i64 (i' : Int) ∧ i' + (n - 1) = x.arms.length ∧ (AV.bool c) = .bool ok ∧ Fine H12 ∧ H7.next ≤ H12.next ∧ Bs H12 r12 (bs ++ fixS x.arms.length 2 ++ done) k' ∧ H6.next ≤ k' ∧ done.length = 12 * i' ∧ done ++ armsB (x.arms.drop i') = armsB x.arms ∧
        (ok && (x.arms.drop i').all (armOk (IntKind.u8.wrap x.a))) = x.arms.all (armOk (IntKind.u8.wrap x.a)) ∧ Keeps X6 H7 H12 := by
      rintro c rfl
      refine ⟨i + 1, k12, done ++ (fixS y.1 8 ++ fixS y.2 4), _, by rw [wrap_i64 (by omega) (by omega)]; simp, by omega, rfl, F12, by omega, ?_, by omega, ?_, ?_, hok2, K12'⟩
      · have : bs ++ fixS x.arms.length 2 ++ (done ++ (fixS y.1 8 ++ fixS y.2 4)) = bs ++ fixS x.arms.length 2 ++ done ++ fixS y.1 8 ++ fixS y.2 4 := by simp only [List.append_assoc]
        rw [this]; exact B12
      · simp only [List.length_append, fixS_length]; omega
      · rw [← hdone, List.drop_eq_getElem_cons hlt, ← hy]
        simp only [armsB, List.flatMap_cons, armB, List.append_assoc]
    cases ok with
    | true =>
      simp only [wB, btt, vT, oS, pB, if_true]
      by_cases hw : fitLo (IntKind.u8.wrap x.a) ≤ y.1 ∧ y.1 ≤ fitHi (IntKind.u8.wrap x.a)
      · simp only [dT hw, wB, btt, vT, oS, pB, if_true, bin_add]
        exact ⟨n - 1, by omega, rfl, rfl, rfl, rfl, rfl, rfl, fin _ (by simp only [dT hw, Bool.true_and]; rfl)⟩
      · simp only [dF hw, wB, bft, vF, oS, pB, Bool.false_eq_true, if_false, bin_add]
        exact ⟨n - 1, by omega, rfl, rfl, rfl, rfl, rfl, rfl, fin _ (by simp only [dF hw, Bool.true_and, Bool.false_and])⟩
    | false =>
      simp only [wB, bft, vF, oS, pB, Bool.false_eq_true, if_false, bin_add]
      exact ⟨n - 1, by omega, rfl, rfl, rfl, rfl, rfl, rfl, fin _ (by simp only [Bool.false_and])⟩
  · have hge : ¬ (i : Int) < x.arms.length := of_decide_eq_false hge
    have hdrop : x.arms.drop i = [] := List.drop_eq_nil_of_le (by omega)
    rw [hdrop] at hdone hok
    simp only [armsB, List.flatMap_nil, List.append_nil, List.all_nil, Bool.and_true] at hdone hok
    obtain ⟨lv, l1, l2⟩ := (L7.keep K8 xl).load (E := E)
    have g8 : H8.get H.next = some (.cells x.cells true []) := K8 _ _ _ xh g7
    rw [l1, oS, fa_24_2, oS, Nat.zero_add, (cells g8).2.1, oS]
    have hbl : (bs ++ fixS x.arms.length 2 ++ done).length < 2 ^ 32 := by rw [List.length_append, List.length_append, fixS_length]; omega
    refine (number_ok F8 B8 hne8 (l2.less F8 fun j _ hj => x68 hk8 j hj) ho.b (s := 4) (by omega) (by omega) (by omega)).use ?_
    rintro v9 H9 ⟨r9, k9, rfl, B9, hk9, K9⟩ F9 n9
    have K09 : Keeps (fun j => j ≠ k) H H9 := Keeps.trans K07 (Keeps.trans K8 K9 F7 fun j _ hj => x68 hk8 j hj) F fun j hj h => (x6 j).2 ⟨h, by omega⟩
    have hB : bs ++ (fixS x.arms.length 2 ++ armsB x.arms ++ fixS x.b 4) = bs ++ fixS x.arms.length 2 ++ done ++ fixS x.b 4 := by rw [hdone]; simp only [armsB, List.append_assoc]
    rw [hB, ← hok]
    simp only [ex0, ex1, oS]
    cases ok with
    | true =>
      simp only [wB, btt, vT, oS, pB, if_true, Bool.true_and]
      exact ⟨K09, _, _, rfl, B9, by omega⟩
    | false =>
      simp only [wB, bft, vF, oS, pB, Bool.false_eq_true, if_false, Bool.false_and]
      exact ⟨K09, _, _, rfl, B9, by omega⟩
end
end Go.Proofs.Ytcboaonbfgjmgaa.op

/-
  Instructions: Encode, Size.
-/
open Go.Proofs Go Go.Am
namespace Go.Proofs.Ytcboaonbfgjmgaa.op
open Go.Proofs.Ytcboaonbfgjmgaa.vb
set_option linter.unusedVariables false
set_option linter.unusedSimpArgs false
set_option maxRecDepth 100000

variable {E : Env} {w0 : World}

theorem bs_27 (H : AHeap) (n : Int) : buildSliceA Try.prog H 27 1 [(0, .int .u8 n)] = some (.slc (.new H.next) 0 1 1 true 1, newCells H [.int .u8 n]) := by kernel_rfl

theorem fldB_length (x : In) : ∀ (i : Nat) (l : List Fd), (∀ f ∈ l, f.size ≤ 8) → (fldB x i l).length ≤ 8 * l.length
  | _, [], _ => by simp [fldB]
  | i, f :: l, h => by
    have := fldB_length x (i + 1) l fun f hf => h f (List.mem_cons_of_mem _ hf)
    have := h f (List.mem_cons_self ..)
    simp only [fldB, List.length_append, fixS_length, List.length_cons]
    omega

section
variable {H : AHeap}
theorem j14_1 {ok : Bool} {r : AV} {Q : AV → AHeap → Prop} (h1 : ok = true → Q (.tup [r, .int .i64 0]) H) (h2 : ok = false → Q (.tup [.nilSlc, .int .i64 120]) H) : J14_1 E w0 Q (.bool ok) r H := by
  unfold J14_1
  cases ok
  · exact h2 rfl
  · exact h1 rfl

theorem encode_ok (F : Fine H) {x : In} (ho : x.Ok) (ha : ArmsAt E All H x.av x.arms) : FnX Try.prog E w0 14 [.agg x.cells] H fun v H' =>
    Stays H H' ∧ ∃ r k', v = .tup [r, .int .i64 (if isS x then 0 else 120)] ∧ Bs H' r (if isS x then encB x else []) k' ∧ H.next ≤ k' ∧ (isS x = true → r ≠ .nilSlc) := by
  refine V14_ok ?_
  unfold V14
  have hcl : AV.cells (.agg x.cells) = x.cells := rfl
  obtain ⟨a1, a2, a3, F1⟩ := F.newCells x.cells
  rw [wW, hcl]
  generalize hH1 : newCells H x.cells = H1 at *
  have cells : ∀ {H' : AHeap}, H'.get H.next = some (.cells x.cells true []) → loadV Try.prog E H' 5 (.ptr (.new H.next) 0) = some (.int .u8 x.op) ∧ loadV Try.prog E H' 2 (.ptr (.new H.next) 1) = some (.int .i64 x.a) ∧ loadV Try.prog E H' 2 (.ptr (.new H.next) 2) = some (.int .i64 x.b) ∧ loadV Try.prog E H' 22 (.ptr (.new H.next) 3) = some x.av ∧ loadV Try.prog E H' 24 (.ptr (.new H.next) 0) = some (.agg x.cells) := fun hg =>
    ⟨by rw [ld_5, loadCell_new E hg]; rfl, by rw [ld_2, loadCell_new E hg]; rfl, by rw [ld_2, loadCell_new E hg]; rfl, by rw [ld_22, loadCell_new E hg]; rfl, by rw [ld_24, loadRange_new E hg, if_pos (by simp [In.cells])]; rfl⟩
  have A1 : ArmsAt E All H1 x.av x.arms := ha.keep (Keeps.of a2)
  simp only [fa_24_0, oS, Nat.add_zero, (cells a1).1]
  refine (layout_ok F1).use ?_
  rintro v2 H2 ⟨lv, rfl, fl, s2⟩ F2 n2
  simp only [ex0, ex1, oS]
  have g2 := s2 _ _ _ a1
  simp only [(cells g2).1, oS, bs_27, o2S]
  obtain ⟨b1, b2, b3, F3⟩ := F2.newCells [AV.int .u8 x.op]
  have hfm := first_of (E := E) (H := newCells H2 [AV.int .u8 x.op]) (cap := 1) (ex := true) (ms := [x.op]) b1
  refine (put_ok F3 (bs := []) (k := (newCells H2 [AV.int .u8 x.op]).next) (.inl ⟨rfl, rfl⟩) hfm (by simp) (by simp)).use ?_
  rintro v4 H4 ⟨B4, k4⟩ F4 n4
  rw [fl.len, oS]
  simp only [List.nil_append] at B4
  generalize hH3 : newCells H2 [AV.int .u8 x.op] = H3 at *
  have s34 : Stays H3 H4 := k4.stays F3 fun j hj => by omega
  have s24 : Stays H2 H4 := stays_trans b2 s34
  have s04 : Stays H H4 := stays_trans a2 (stays_trans s2 s24)
  obtain ⟨X, hX⟩ : ∃ X : Nat → Prop, X = fun j => j < H3.next := ⟨_, rfl⟩
  have xx : ∀ j, X j ↔ j < H3.next := fun j => by rw [hX]
  obtain ⟨l, hl⟩ : ∃ l, l = (lay x.op).getD [] := ⟨_, rfl⟩
  rw [← hl] at fl ⊢
  have hsz : ∀ f ∈ l, 1 ≤ f.size ∧ f.size ≤ 8 := by rw [hl]; exact lay_size
  have hll : l.length ≤ 2 := by rw [hl]; exact lay_length
  have fl4 : FieldsAt X H4 lv l := (fl.less F2 fun j hj _ => (xx j).2 (by omega)).keep (Keeps.of s24)
  have A4 : ArmsAt E X H4 x.av x.arms := (A1.less F1 fun j hj _ => (xx j).2 (by omega)).keep (Keeps.of (stays_trans s2 s24))
  have g4 : H4.get H.next = some (.cells x.cells true []) := s24 _ _ _ g2
  have xh : X H.next := (xx _).2 (by omega)
  refine loop14_0 (I := fun n t1 t4 t5 t6 t21 t22 t23 H' => t1 = .ptr (.new H.next) 0 ∧ lv = t4 ∧ lv = t21 ∧ t22 = .int .i64 (l.length : Int) ∧ ∃ (i k' : Nat) (done : List Int) (ok : Bool), t23 = .int .i64 (i : Int) ∧ i + n = l.length ∧ t5 = .bool ok ∧ Fine H' ∧ H4.next ≤ H'.next ∧
      Bs H' t6 (x.op :: done) k' ∧ H3.next ≤ k' ∧ done.length ≤ 8 * i ∧ done ++ fldB x i (l.drop i) = fldB x 0 l ∧ (ok && fldOk x i (l.drop i)) = ((lay x.op).isSome && fldOk x 0 l) ∧ Keeps X H4 H') ?_ (n := l.length)
    ⟨rfl, rfl, rfl, rfl, 0, H3.next, [], _, rfl, by omega, rfl, F4, Nat.le_refl _, B4, Nat.le_refl _, by simp, rfl, rfl, Keeps.refl⟩
  rintro n _ _ _ t6 _ _ _ H5 ⟨rfl, rfl, rfl, rfl, i, k5, done, ok, rfl, hi, rfl, F5, n5, B5, hk5, hdl, hdone, hok, K5⟩
  intros
  unfold B14_0
  have s05 : Stays H H5 := fun j al pr hj => K5 _ _ _ ((xx j).2 (by have := F.lt hj; omega)) (s04 _ _ _ hj)
  have g5 : H5.get H.next = some (.cells x.cells true []) := K5 _ _ _ xh g4
  have hk5lt := B5.lt F5 (by simp)
  rw [bin_lss, oS, condW_bool]
  refine ⟨fun hlt => ?_, fun hge => ?_⟩
  · have hlt : i < l.length := by have := of_decide_eq_true hlt; omega
    obtain ⟨f, hf⟩ : ∃ f, f = l[i] := ⟨_, rfl⟩
    have hfm := hsz f (by rw [hf]; exact List.getElem_mem _)
    obtain ⟨p, fv, e1, e2, m⟩ := (fl4.keep K5).at (E := E) (j := i) (f := f) (by rw [hf]; exact List.getElem?_eq_getElem hlt)
    rw [e1, oS, e2, oS]
    refine box_new F5 m fun H6 F6 s6 n6 b6 => ?_
    have K6 : Keeps X H4 H6 := Keeps.trans K5 (Keeps.of s6) F4 fun _ _ h => h
    have g6 : H6.get H.next = some (.cells x.cells true []) := s6 _ _ _ g5
    obtain ⟨fv', l1, l2⟩ := b6.load (E := E)
    simp only [fa_24_1, fa_24_2, oS, Nat.zero_add, (cells g6).2.1, (cells g6).2.2.1, eqv_3, condW_bool]
    have hdrop : l.drop i = f :: l.drop (i + 1) := by rw [hf]; exact List.drop_eq_getElem_cons hlt
    rw [hdrop] at hdone hok
    simp only [fldB, fldOk] at hdone hok
    have hnum : I64 (x.num i) := by unfold In.num; split; exact ho.b; exact ho.a
    refine ⟨fun h => ?_, fun h => ?_⟩
    · have hz : x.b = x.num i := by
        have : (i : Int) = 1 := by simpa using h
        rw [In.num, if_pos (by omega)]
      rw [hz]
      unfold J14_0
      rw [l1, oS]
      refine (number_ok F6 (B5.keep fun all pre hg => s6 _ _ _ hg) (by simp) (l2.less F6 fun j _ hj => by have := (xx j).1 hj; omega) hnum (s := f.size) hfm.1 hfm.2 (by simp only [List.length_cons]; omega)).use ?_
      rintro v7 H7 ⟨r7, k7, rfl, B7, hk7, K7⟩ F7 n7
      simp only [ex0, ex1, oS]
      have K7' : Keeps X H4 H7 := Keeps.trans K6 K7 F4 (fun j _ hj => by have := (xx j).1 hj; omega)
      have fin : ∀ c : Bool, c = (ok && decide (f.lo ≤ x.num i ∧ x.num i ≤ f.hi)) → ∃ (i' k' : Nat) (done : List Int) (ok : Bool), (AV.int .i64 (IntKind.i64.wrap ((i : Int) + 1))) = .int .i64 (i' : Int) ∧ i' + (n - 1) = l.length ∧ (AV.bool c) = .bool ok ∧ Fine H7 ∧ H4.next ≤ H7.next ∧
          Bs H7 r7 (x.op :: done) k' ∧ H3.next ≤ k' ∧ done.length ≤ 8 * i' ∧ done ++ fldB x i' (l.drop i') = fldB x 0 l ∧ (ok && fldOk x i' (l.drop i')) = ((lay x.op).isSome && fldOk x 0 l) ∧ Keeps X H4 H7 := by
        rintro c rfl
        refine ⟨i + 1, k7, done ++ fixS (x.num i) f.size, _, by rw [wrap_i64 (by omega) (by omega)]; simp, by omega, rfl, F7, by omega, ?_, by omega, by simp only [List.length_append, fixS_length]; omega, ?_, ?_, K7'⟩
        · simpa using B7
        · rw [← hdone, List.append_assoc]
        · rw [← hok, Bool.and_assoc]
          rfl
      cases ok with
      | true =>
        simp only [wB, btt, vT, oS, pB, if_true, bin_add]
        exact ⟨n - 1, by omega, rfl, rfl, rfl, rfl, rfl, fin _ (by simp only [Bool.true_and])⟩
      | false =>
        simp only [wB, bft, vF, oS, pB, Bool.false_eq_true, if_false, bin_add]
        exact ⟨n - 1, by omega, rfl, rfl, rfl, rfl, rfl, fin _ (by simp only [Bool.false_and])⟩
    · have hz : x.a = x.num i := by
        have : ¬ (i : Int) = 1 := by simpa using h
        rw [In.num, if_neg (by omega)]
      rw [hz]
      unfold J14_0
      rw [l1, oS]
      refine (number_ok F6 (B5.keep fun all pre hg => s6 _ _ _ hg) (by simp) (l2.less F6 fun j _ hj => by have := (xx j).1 hj; omega) hnum (s := f.size) hfm.1 hfm.2 (by simp only [List.length_cons]; omega)).use ?_
      rintro v7 H7 ⟨r7, k7, rfl, B7, hk7, K7⟩ F7 n7
      simp only [ex0, ex1, oS]
      have K7' : Keeps X H4 H7 := Keeps.trans K6 K7 F4 (fun j _ hj => by have := (xx j).1 hj; omega)
      have fin : ∀ c : Bool, c = (ok && decide (f.lo ≤ x.num i ∧ x.num i ≤ f.hi)) → ∃ (i' k' : Nat) (done : List Int) (ok : Bool), (AV.int .i64 (IntKind.i64.wrap ((i : Int) + 1))) = .int .i64 (i' : Int) ∧ i' + (n - 1) = l.length ∧ (AV.bool c) = .bool ok ∧ Fine H7 ∧ H4.next ≤ H7.next ∧
          Bs H7 r7 (x.op :: done) k' ∧ H3.next ≤ k' ∧ done.length ≤ 8 * i' ∧ done ++ fldB x i' (l.drop i') = fldB x 0 l ∧ (ok && fldOk x i' (l.drop i')) = ((lay x.op).isSome && fldOk x 0 l) ∧ Keeps X H4 H7 := by
        rintro c rfl
        refine ⟨i + 1, k7, done ++ fixS (x.num i) f.size, _, by rw [wrap_i64 (by omega) (by omega)]; simp, by omega, rfl, F7, by omega, ?_, by omega, by simp only [List.length_append, fixS_length]; omega, ?_, ?_, K7'⟩
        · simpa using B7
        · rw [← hdone, List.append_assoc]
        · rw [← hok, Bool.and_assoc]
          rfl
      cases ok with
      | true =>
        simp only [wB, btt, vT, oS, pB, if_true, bin_add]
        exact ⟨n - 1, by omega, rfl, rfl, rfl, rfl, rfl, fin _ (by simp only [Bool.true_and])⟩
      | false =>
        simp only [wB, bft, vF, oS, pB, Bool.false_eq_true, if_false, bin_add]
        exact ⟨n - 1, by omega, rfl, rfl, rfl, rfl, rfl, fin _ (by simp only [Bool.false_and])⟩
  · have hge : ¬ (i : Int) < l.length := of_decide_eq_false hge
    have hdrop : l.drop i = [] := List.drop_eq_nil_of_le (by omega)
    rw [hdrop] at hdone hok
    simp only [fldB, fldOk, List.append_nil, Bool.and_true] at hdone hok
    have nx : ∀ {H9 : AHeap} {c : Bool} {r : AV} {k' : Nat}, c = isS x → Stays H H9 → (c = true → Bs H9 r (encB x) k') → H.next ≤ k' → J14_1 E w0 (fun v H' => Stays H H' ∧ ∃ r k', v = .tup [r, .int .i64 (if isS x = true then 0 else 120)] ∧ Bs H' r (if isS x = true then encB x else []) k' ∧ H.next ≤ k' ∧ (isS x = true → r ≠ .nilSlc)) (.bool c) r H9 := by
      intro H9 c r k' hc hs hb hk
      refine j14_1 (fun h => ?_) (fun h => ?_)
      · rw [h] at hc
        simp only [← hc, if_true]
        refine ⟨hs, r, k', rfl, hb h, hk, fun _ e => ?_⟩
        rcases hb h with ⟨_, h⟩ | ⟨_, _, _, _, h, _⟩
        · simp [encB] at h
        · rw [e] at h; cases h
      · rw [h] at hc
        simp only [← hc, Bool.false_eq_true, if_false]
        exact ⟨hs, _, k', rfl, .inl ⟨rfl, rfl⟩, hk, fun h => by cases h⟩
    rw [fa_24_0, oS, Nat.add_zero, (cells g5).1, oS, eqv_5, oS]
    by_cases hsw : x.op = 49 ∧ ok = true
    · obtain ⟨hsw, rfl⟩ := hsw
      have hb : (x.op == 49) = true := by simpa using hsw
      simp only [hb, wB, btt, vT, oS, pB, if_true]
      rw [cT, (cells g5).2.2.2.2, oS]
      refine (arms_ok F5 ho B5 (by simp) (by simp only [List.length_cons]; omega) ((A4.keep K5).less F5 fun j _ hj => by have := (xx j).1 hj; omega)).use ?_
      rintro v9 H9 ⟨K9, h9⟩ F9 n9
      have s09 : Stays H H9 := fun j al pr hj => K9 _ _ _ (by have := F.lt hj; simp only; omega) (s05 _ _ _ hj)
      by_cases hlen : x.arms.length ≤ 65535
      · rw [if_pos hlen] at h9
        obtain ⟨r, k', rfl, B9, hk9⟩ := h9
        simp only [ex0, ex1, oS]
        refine nx ?_ s09 (fun _ => ?_) (show H.next ≤ k' by omega)
        · unfold isS
          rw [← hl, ← hok, if_pos hsw, dT hlen]
          simp only [Bool.true_and]
        · unfold encB
          rw [← hl, if_pos hsw]
          simpa [← hdone] using B9
      · rw [if_neg hlen] at h9
        subst h9
        simp only [ex0, ex1, oS]
        refine nx (k' := H.next) ?_ s09 (fun h => by cases h) (Nat.le_refl _)
        unfold isS
        rw [if_pos hsw, dF hlen]
        simp only [Bool.false_and, Bool.and_false]
    have hS : isS x = (ok && (decide (x.arms.length = 0) && (decide (2 ≤ l.length) || decide (x.b = 0)) && (decide (1 ≤ l.length) || decide (x.a = 0)))) := by
      unfold isS
      rw [← hl, ← hok]
      by_cases h : x.op = 49
      · have : ok = false := by
          cases ok with
          | true => exact (hsw ⟨h, rfl⟩).elim
          | false => rfl
        rw [this]; simp only [Bool.false_and]
      · rw [if_neg h]
    have hE : isS x = true → encB x = x.op :: done := by
      intro h
      have h1 : ok = true := by
        rw [hS] at h
        cases ok with
        | true => rfl
        | false => simp at h
      unfold encB
      rw [if_neg (fun e => hsw ⟨e, h1⟩), ← hl, ← hdone, List.append_nil]
    have left : ∀ {A B : Prop}, B → (optW (some (.bool (x.op == 49))) fun v39 => optW (valG (wantsA v39 true) (some (.bool ok))) fun v40 => optW (pickV v39 v40 (.bool false)) fun v41 => condW v41 A B) := by
      intro A B hB
      by_cases h : x.op = 49
      · have hb : (x.op == 49) = true := by simpa using h
        have : ok = false := by
          cases ok with
          | true => exact (hsw ⟨h, rfl⟩).elim
          | false => rfl
        subst this
        simp only [hb, wB, btt, vT, oS, pB, if_true, cF]
        exact hB
      · have hb : (x.op == 49) = false := by simpa using h
        simp only [hb, wB, bft, vF, oS, pB, Bool.false_eq_true, if_false, cF]
        exact hB
    refine left ?_
    rw [fa_24_3, oS, Nat.zero_add, (cells g5).2.2.2.1, oS, A4.len, oS, bin_gtr, oS]
    by_cases c1 : (x.arms.length : Int) > 0
    · simp only [dT c1, cT]
      refine nx (k' := H.next) ?_ s05 (fun h => by cases h) (Nat.le_refl _)
      rw [hS, dF (show ¬ x.arms.length = 0 by omega)]
      simp only [Bool.false_and, Bool.and_false]
    simp only [dF c1, cF]
    have c1' : decide (x.arms.length = 0) = true := dT (by omega)
    rw [fl4.len, oS, bin_lss, oS]
    by_cases c2 : (l.length : Int) < 2 ∧ x.b ≠ 0
    · have hb : (x.b != 0) = true := by simpa using c2.2
      simp only [dT c2.1, wB, btt, vT, fa_24_2, Nat.zero_add, (cells g5).2.2.1, oS, nev_2, pB, if_true, hb, cT]
      refine nx (k' := H.next) ?_ s05 (fun h => by cases h) (Nat.le_refl _)
      rw [hS, dF (show ¬ 2 ≤ l.length by omega), dF c2.2]
      simp only [Bool.or_false, Bool.false_and, Bool.and_false]
    have c2' : (decide (2 ≤ l.length) || decide (x.b = 0)) = true := by
      by_cases h : 2 ≤ l.length
      · rw [dT h]; rfl
      · by_cases hb : x.b = 0
        · rw [dT hb]; simp
        · exact (c2 ⟨by omega, hb⟩).elim
    have left2 : ∀ {A : AV → Prop} {B : Prop}, B → (optW (valG (wantsA (.bool (decide ((l.length : Int) < 2))) true) (fieldAtA Try.prog 24 (.ptr (.new H.next) 0) 2)) fun v53 => optW (valG (wantsA (.bool (decide ((l.length : Int) < 2))) true) (loadV Try.prog E H5 2 v53)) fun v54 =>
        optW (valG (wantsA (.bool (decide ((l.length : Int) < 2))) true) (binV Try.prog .neq 2 (.tmp 69) (.const (.int .i64 0)) v54 (.int .i64 0))) fun v55 => optW (pickV (.bool (decide ((l.length : Int) < 2))) v55 (.bool false)) fun v56 => condW v56 (A v56) B) := by
      intro A B hB
      by_cases h : (l.length : Int) < 2
      · have hb : (x.b != 0) = false := by
          by_cases hb : x.b = 0
          · rw [hb]; rfl
          · exact (c2 ⟨h, hb⟩).elim
        simp only [dT h, wB, btt, vT, fa_24_2, Nat.zero_add, (cells g5).2.2.1, oS, nev_2, pB, if_true, hb, cF]
        exact hB
      · simp only [dF h, wB, bft, vF, oS, pB, Bool.false_eq_true, if_false, cF]
        exact hB
    refine left2 ?_
    rw [oS, bin_lss, oS]
    have last : isS x = (ok && (decide (1 ≤ l.length) || decide (x.a = 0))) := by rw [hS, c1', c2']; simp only [Bool.true_and]
    by_cases c3 : (l.length : Int) < 1
    · simp only [dT c3, wB, btt, vT, fa_24_1, Nat.zero_add, (cells g5).2.1, oS, nev_2, pB, if_true]
      by_cases ha : x.a = 0
      · have hb : (x.a != 0) = false := by rw [ha]; rfl
        simp only [hb, cF]
        refine nx (k' := k5) ?_ s05 (fun h => ?_) (by omega)
        · rw [last, dT ha, Bool.or_true, Bool.and_true]
        · rw [hE (by rw [last, dT ha, h]; simp)]; exact B5
      · have hb : (x.a != 0) = true := by simpa using ha
        simp only [hb, cT]
        refine nx (k' := H.next) ?_ s05 (fun h => by cases h) (Nat.le_refl _)
        rw [last, dF ha, dF (show ¬ 1 ≤ l.length by omega)]
        simp
    · simp only [dF c3, wB, bft, vF, oS, pB, Bool.false_eq_true, if_false, cF]
      refine nx (k' := k5) ?_ s05 (fun h => ?_) (by omega)
      · rw [last, dT (show 1 ≤ l.length by omega)]; simp
      · rw [hE (by rw [last, dT (show 1 ≤ l.length by omega), h]; simp)]; exact B5

theorem size_ok (F : Fine H) {x : In} (ho : x.Ok) (ha : ArmsAt E All H x.av x.arms) : FnX Try.prog E w0 15 [.agg x.cells] H fun v H' => Stays H H' ∧ v = .int .i64 (if isS x then ((encB x).length : Int) else 0) := by
  refine V15_ok ?_
  unfold V15
  have hcl : AV.cells (.agg x.cells) = x.cells := rfl
  obtain ⟨a1, a2, a3, F1⟩ := F.newCells x.cells
  rw [wW, hcl, ld_24, loadRange_new E a1, if_pos (by simp [In.cells])]
  have ht : (x.cells.drop 0).take 4 = x.cells := rfl
  rw [ht, Option.bind_some, oS]
  refine (encode_ok F1 ho (ha.keep (Keeps.of a2))).use ?_
  rintro v2 H2 ⟨s2, r, k', rfl, B2, _, _⟩ F2 n2
  simp only [ex0, ex1, oS, B2.len]
  refine ⟨stays_trans a2 s2, ?_⟩
  by_cases h : isS x = true
  · simp only [if_pos h]
  · simp only [if_neg h]; rfl
end
end Go.Proofs.Ytcboaonbfgjmgaa.op

/-
  Instructions: names; bytes as a text.
-/
open Go.Proofs Go Go.Am
namespace Go.Proofs.Ytcboaonbfgjmgaa.op
open Go.Proofs.Ytcboaonbfgjmgaa.vb Go.Proofs.Ytcboaonbfgjmgaa.vr
set_option linter.unusedVariables false
set_option linter.unusedSimpArgs false
set_option maxRecDepth 100000

/-- The names' bytes. -/
def table : List (List UInt8) :=
  [[], [105, 56], [105, 51, 50], [105, 54, 52], [116, 114, 117, 101], [102, 97, 108, 115, 101], [116, 101, 120, 116], [103, 101, 116], [112, 117, 116], [112, 111, 112], [100, 117, 112], [97, 100, 100], [115, 117, 98],
   [109, 117, 108], [100, 105, 118], [114, 101, 109], [97, 110, 100], [111, 114], [120, 111, 114], [115, 104, 108], [115, 104, 114], [110, 101, 103], [110, 111, 116], [101, 113], [110, 101], [108, 116], [108, 101], [103, 116], [103, 101],
   [99, 111, 110, 118], [102, 108, 105, 112], [99, 97, 116], [115, 105, 122, 101], [99, 104, 97, 114, 97, 116], [99, 117, 116], [98, 121, 116, 101], [110, 101, 119], [102, 105, 101, 108, 100], [115, 101, 116, 102, 105, 101, 108, 100],
   [102, 105, 108, 108], [101, 109, 112, 116, 121], [97, 116], [115, 101, 116, 97, 116], [108, 101, 110], [112, 117, 115, 104], [100, 114, 111, 112], [106, 117, 109, 112], [117, 110, 108, 101, 115, 115], [119, 104, 101, 110],
   [115, 119, 105, 116, 99, 104], [99, 97, 108, 108], [114, 101, 116, 117, 114, 110], [116, 114, 97, 112]]
def nm (i : Nat) : List UInt8 := table.getD i []

variable {E : Env} {w0 : World}

theorem V17_is {Q : AV → AHeap → Prop} {n : Int} {H : AHeap} : V17 E w0 Q (.int .u8 n) H =
    (withW (.ptr (.new H.next) 0) (newCells H (List.replicate 53 (.str []))) fun p3 H1 => storeW Try.prog H1 85 p3 (.agg (table.map .str)) fun _ H5 =>
      condW (.bool (decide (IntKind.i64.wrap n < 53)))
        (optW (indexAtA Try.prog 85 p3 (.int .u8 n)) fun v8 => optW (loadV Try.prog E H5 9 v8) fun v9 => Q v9 H5)
        (Q (.str []) H5)) := by kernel_rfl

theorem V18_is {Q : AV → AHeap → Prop} {n : Int} {H : AHeap} : V18 E w0 Q (.int .u8 n) H =
    (opt2W (some (.slc (.new H.next) 0 53 53 true 1, newCells H (table.map .str))) fun v0 H1 =>
      condW (.bool (decide (IntKind.i64.wrap n ≥ 53))) (Q (.str []) H1)
        (optW (indexAtA Try.prog 52 v0 (.int .u8 n)) fun v5 => optW (loadV Try.prog E H1 9 v5) fun v6 => Q v6 H1)) := by kernel_rfl
theorem sz_85 : sizeA Try.prog 85 = some (AV.agg (table.map AV.str)).cells.length := by kernel_rfl
theorem table_length : table.length = 53 := rfl
theorem table_get {i : Nat} (hi : i < 53) : (table.map AV.str)[i]? = some (.str (nm i)) := by
  have hl : i < table.length := by rw [table_length]; exact hi
  rw [List.getElem?_map, List.getElem?_eq_getElem hl, nm, List.getD_eq_getElem?_getD, List.getElem?_eq_getElem hl]
  rfl
theorem nm_none {i : Nat} (hi : 53 ≤ i) : nm i = [] := by
  rw [nm, List.getD_eq_getElem?_getD, List.getElem?_eq_none (by rw [table_length]; exact hi)]
  rfl

theorem name_ok {op : Int} (h0 : 0 ≤ op) (h1 : op ≤ 255) {H : AHeap} (F : Fine H) : FnX Try.prog E w0 17 [.int .u8 op] H fun v H' => v = .str (nm op.toNat) ∧ Stays H H' := by
  refine V17_ok ?_
  rw [V17_is, wW]
  obtain ⟨a1, a2, a3, F1⟩ := F.newCells (List.replicate 53 (AV.str []))
  have hcells : (AV.agg (table.map AV.str)).cells = table.map AV.str := rfl
  obtain ⟨H2, c1, c2, c3, c4, F2⟩ := F1.stores a1 (n := 0) (vs := table.map AV.str) (by simp [table]) (by rw [List.length_map, table_length, List.length_replicate]; exact Nat.le_refl _) (by rfl)
  rw [setMany_all (by rw [List.length_map, table_length, List.length_replicate])] at c2
  refine storesW sz_85 (by rw [hcells]; exact c1) ?_
  have s2 : Stays H H2 := fun k all pre hk => c3 _ _ _ (by have := F.lt hk; omega) (a2 _ _ _ hk)
  rw [wrap_i64 (by omega) (by omega), condW_bool]
  refine ⟨fun h => ?_, fun h => ?_⟩
  · have h : op < 53 := of_decide_eq_true h
    rw [ix_85, if_pos ⟨by omega, by omega⟩, oS, ld_9, loadCell_new E c2, Nat.zero_add, Nat.mul_one, table_get (by omega), oS]
    exact ⟨rfl, s2⟩
  · have h : ¬ op < 53 := of_decide_eq_false h
    rw [nm_none (by omega)]
    exact ⟨rfl, s2⟩

theorem nameR_ok {op : Int} (h0 : 0 ≤ op) (h1 : op ≤ 255) {H : AHeap} (F : Fine H) : FnX Try.prog E w0 18 [.int .u8 op] H fun v H' => v = .str (nm op.toNat) ∧ Stays H H' := by
  refine V18_ok ?_
  rw [V18_is, o2S]
  obtain ⟨a1, a2, a3, F1⟩ := F.newCells (table.map AV.str)
  rw [wrap_i64 (by omega) (by omega), condW_bool]
  refine ⟨fun h => ?_, fun h => ?_⟩
  · have h : op ≥ 53 := of_decide_eq_true h
    rw [nm_none (by omega)]
    exact ⟨rfl, a2⟩
  · have h : ¬ op ≥ 53 := of_decide_eq_false h
    rw [ix_52, if_pos ⟨by omega, by omega⟩, oS, ld_9, loadCell_new E a1, Nat.zero_add, Nat.mul_one, table_get (by omega), oS]
    exact ⟨rfl, a2⟩

def textOf (bs : List Int) : List UInt8 := bs.map fun n => UInt8.ofNat n.toNat
theorem mapM_bytes : ∀ bs : List Int, (bys bs).mapM Am.byteOf = some (textOf bs)
  | [] => rfl
  | b :: bs => by
    have := mapM_bytes bs
    simp only [bys, textOf, List.map_cons, List.mapM_cons] at this ⊢
    rw [this]
    rfl
theorem cv0_27_9 (H : AHeap) : (convA Try.prog E H 27 9 .nilSlc).map (·.1) = some (.str []) := by kernel_rfl
theorem cv_27_9 (H : AHeap) (o : Am.Id) (i len cap : Nat) (ex : Bool) (sz : Nat) : (convA Try.prog E H 27 9 (.slc o i len cap ex sz)).map (·.1) = (rangeOr E H o i len).bind fun cs => (cs.mapM Am.byteOf).map .str := by
  have h : convA Try.prog E H 27 9 (.slc o i len cap ex sz) = match rangeOr E H o i len with
        | some cs => (cs.mapM Am.byteOf).map fun bs => (.str bs, H)
        | none => none := by kernel_rfl
  rw [h]
  cases rangeOr E H o i len with
  | none => rfl
  | some cs =>
    simp only [Option.bind_some]
    cases List.mapM Am.byteOf cs <;> rfl
theorem Bs.text {H : AHeap} {v : AV} {bs : List Int} {k : Nat} (h : Bs H v bs k) : (convA Try.prog E H 27 9 v).map (·.1) = some (.str (textOf bs)) := by
  rcases h with ⟨rfl, rfl⟩ | ⟨cap, ex, all, pre, rfl, g, t, c⟩
  · exact cv0_27_9 _
  · have hl := congrArg List.length t
    rw [List.length_take, bys_length] at hl
    rw [cv_27_9]
    unfold rangeOr
    split
    · rename_i hz
      rw [List.length_eq_zero_iff.1 hz]; rfl
    · rw [loadRange_new E g, if_pos (by omega), List.drop_zero, t, Option.bind_some, mapM_bytes]
      rfl
end Go.Proofs.Ytcboaonbfgjmgaa.op

/-
  The document's numbers and parts.
-/
open Go.Proofs Go Go.Am
namespace Go.Proofs.Ytcboaonbfgjmgaa.op
open Go.Proofs.Ytcboaonbfgjmgaa.vb Go.Proofs.Ytcboaonbfgjmgaa.vr
set_option linter.unusedVariables false
set_option linter.unusedSimpArgs false
set_option maxRecDepth 100000

variable {E : Env} {w0 : World}

theorem and_114 (a b : Int) : binA Try.prog .and 114 (.int .u64 a) (.int .u64 b) = some (.int .u64 (IntKind.u64.wrap (BitVec.ofInt 64 a &&& BitVec.ofInt 64 b).toNat)) := by kernel_rfl
theorem or_114 (a b : Int) : binA Try.prog .or 114 (.int .u64 a) (.int .u64 b) = some (.int .u64 (IntKind.u64.wrap (BitVec.ofInt 64 a ||| BitVec.ofInt 64 b).toNat)) := by kernel_rfl
theorem shl_114 (x y : Int) : binA Try.prog .shl 114 (.int .u64 x) (.int .i64 y) = if y < 0 then none else some (.int .u64 (IntKind.u64.wrap (x * 2 ^ (min y.toNat 64)))) := by kernel_rfl
theorem cv_114_2' (H : AHeap) (n : Int) : (convA Try.prog E H 114 2 (.int .u64 n)).map (·.1) = some (.int .i64 (IntKind.i64.wrap n)) := by kernel_rfl

theorem toNat_ofInt (a : Nat) : (BitVec.ofInt 64 (a : Int)).toNat = a % 2 ^ 64 := by
  rw [BitVec.toNat_ofInt]
  omega
theorem u64_nat {a : Nat} (h : a < 2 ^ 64) : IntKind.u64.wrap (a : Int) = a := by rw [u64_wrap]; omega
theorem and_nat (a : Nat) : binA Try.prog .and 114 (.int .u64 (a : Int)) (.int .u64 1) = some (.int .u64 ((a % 2 : Nat) : Int)) := by
  rw [and_114, BitVec.toNat_and, toNat_ofInt, show (1 : Int) = ((1 : Nat) : Int) from rfl, toNat_ofInt, show (1 : Nat) % 2 ^ 64 = 1 from rfl, Nat.and_one_is_mod, u64_nat (by omega)]
  congr 3
  omega
theorem or_nat {a b : Nat} (ha : a < 2 ^ 64) (hb : b < 2 ^ 64) : binA Try.prog .or 114 (.int .u64 (a : Int)) (.int .u64 (b : Int)) = some (.int .u64 ((a ||| b : Nat) : Int)) := by
  rw [or_114, BitVec.toNat_or, toNat_ofInt, toNat_ofInt, Nat.mod_eq_of_lt ha, Nat.mod_eq_of_lt hb, u64_nat (Nat.or_lt_two_pow ha hb)]
theorem shr_nat {a i : Nat} (hi : i ≤ 64) : binA Try.prog .shr 114 (.int .u64 (a : Int)) (.int .i64 (i : Int)) = some (.int .u64 ((a / 2 ^ i : Nat) : Int)) := by
  rw [shr_114, if_neg (by omega), Int.toNat_natCast, Nat.min_eq_left hi, Int.fdiv_eq_ediv_of_nonneg _ (Int.le_of_lt (Int.pow_pos (by decide)))]
  simp
theorem shl_nat {a i : Nat} (hi : i ≤ 64) (h : a * 2 ^ i < 2 ^ 64) : binA Try.prog .shl 114 (.int .u64 (a : Int)) (.int .i64 (i : Int)) = some (.int .u64 ((a * 2 ^ i : Nat) : Int)) := by
  rw [shl_114, if_neg (by omega), Int.toNat_natCast, Nat.min_eq_left hi]
  have e : (a : Int) * 2 ^ i = ((a * 2 ^ i : Nat) : Int) := by simp
  rw [e, u64_nat h]
theorem or_add {a b i : Nat} (h : a < 2 ^ i) : a ||| (b * 2 ^ i) = a + b * 2 ^ i := by
  have := Nat.two_pow_add_eq_or_of_lt h b
  rw [Nat.or_comm, Nat.mul_comm b, ← this, Nat.add_comm]
theorem u64_cast (n : Int) : IntKind.u64.wrap n = (((n % 18446744073709551616).toNat : Nat) : Int) := by rw [u64_wrap]; omega

theorem bitsR_ok {H : AHeap} {w : Int} : FnX Try.prog E w0 71 [.int .u8 w] H fun v H' => v = .int .i64 (bitsS w) ∧ H' = H := by
  refine V71_ok ?_
  unfold V71 bitsS
  simp only [eqv_5, oS, condW_bool, beq_iff_eq, beq_eq_false_iff_ne, ne_eq]
  refine ⟨fun h => ?_, fun h1 => ⟨fun h => ?_, fun h2 => ⟨fun h => ?_, fun h3 => ?_⟩⟩⟩
  · rw [if_pos h]; exact ⟨rfl, by trivial⟩
  · rw [if_neg h1, if_pos h]; exact ⟨rfl, by trivial⟩
  · rw [if_neg h1, if_neg h2, if_pos h]; exact ⟨rfl, by trivial⟩
  · rw [if_neg h1, if_neg h2, if_neg h3]; exact ⟨rfl, by trivial⟩

/-- The lowest bits, the topmost of them being the sign. -/
def outS (U b : Nat) : Nat := U % 2 ^ b + (U / 2 ^ (b - 1)) % 2 * (2 ^ 64 - 2 ^ b)
theorem bits_nat (w : Int) : ∃ b : Nat, bitsS w = (b : Int) ∧ (b = 0 ∨ b = 8 ∨ b = 32 ∨ b = 64) := by
  unfold bitsS
  split
  · exact ⟨8, rfl, by omega⟩
  split
  · exact ⟨32, rfl, by omega⟩
  split
  · exact ⟨64, rfl, by omega⟩
  · exact ⟨0, rfl, by omega⟩

theorem mod_succ_pow (U i : Nat) : U % 2 ^ i + U / 2 ^ i % 2 * 2 ^ i = U % 2 ^ (i + 1) := by
  rw [Nat.pow_succ, Nat.mod_mul, Nat.mul_comm (2 ^ i)]

theorem wrapR_ok {H : AHeap} {w n : Int} (hw : 0 < bitsS w) : FnX Try.prog E w0 76 [.int .u8 w, .int .i64 n] H fun v H' => v = .int .i64 (IntKind.i64.wrap (outS (n % 18446744073709551616).toNat (bitsS w).toNat : Nat)) ∧ H' = H := by
  refine V76_ok ?_
  unfold V76
  refine bitsR_ok.use ?_
  rintro v H1 ⟨rfl, rfl⟩ _ _
  obtain ⟨b, hb, hbc⟩ := bits_nat w
  rw [hb] at hw ⊢
  rw [Int.toNat_natCast]
  obtain ⟨U, hU⟩ : ∃ U, U = (n % 18446744073709551616).toNat := ⟨_, rfl⟩
  have hUl : U < 2 ^ 64 := by omega
  rw [← hU]
  have hu : IntKind.u64.wrap n = (U : Int) := by rw [u64_cast, hU]
  have hb64 : b ≤ 64 := by omega
  have pow_le : ∀ {x y : Nat}, x ≤ y → 2 ^ x ≤ 2 ^ y := fun h => Nat.pow_le_pow_right (by decide) h
  refine loop76_0 (I := fun m t1 t5 t6 t7 H' => t1 = .int .i64 n ∧ t5 = .int .i64 (b : Int) ∧ H' = H1 ∧ ∃ i : Nat, t7 = .int .i64 (i : Int) ∧ i + m = b ∧ t6 = .int .u64 ((U % 2 ^ i : Nat) : Int)) ?_ (n := b)
    ⟨rfl, rfl, rfl, 0, rfl, by omega, by simp [Nat.mod_one]⟩
  rintro m _ _ _ _ H2 ⟨rfl, rfl, rfl, i, rfl, hi, rfl⟩
  intros
  unfold B76_0
  rw [bin_lss, oS, condW_bool]
  refine ⟨fun hlt => ?_, fun hge => ?_⟩
  · have hlt : i < b := by have := of_decide_eq_true hlt; omega
    have h1 : U % 2 ^ i < 2 ^ i := Nat.mod_lt _ (Nat.pow_pos (by decide))
    have h2 : U % 2 ^ (i + 1) < 2 ^ (i + 1) := Nat.mod_lt _ (Nat.pow_pos (by decide))
    have h3 := pow_le (show i + 1 ≤ 64 by omega)
    have h4 := mod_succ_pow U i
    have h5 : U / 2 ^ i % 2 * 2 ^ i < 2 ^ 64 := by omega
    rw [cv_2_114, oS, hu, shr_nat (by omega), oS, and_nat, oS, shl_nat (by omega) h5, oS, or_nat (by have := pow_le (show i ≤ 64 by omega); omega) h5, oS, or_add h1, h4, bin_add, oS, wrap_i64 (by omega) (by omega)]
    exact ⟨m - 1, by omega, rfl, rfl, rfl, rfl, i + 1, by simp, by omega, rfl⟩
  · have hge : ¬ (i : Int) < b := of_decide_eq_false hge
    obtain rfl : i = b := by omega
    obtain ⟨s, hs⟩ : ∃ s, s = U / 2 ^ (i - 1) % 2 := ⟨_, rfl⟩
    have hs2 : s < 2 := by rw [hs]; exact Nat.mod_lt _ (by decide)
    have hpow : 2 ^ i ≤ 2 ^ 64 := pow_le hb64
    refine loop76_1 (I := fun m t1 t5 t6 t8 H' => t1 = .int .i64 n ∧ t5 = .int .i64 (i : Int) ∧ H' = H2 ∧ ∃ j : Nat, t8 = .int .i64 (j : Int) ∧ j + m = 64 ∧ i ≤ j ∧ t6 = .int .u64 ((U % 2 ^ i + s * (2 ^ j - 2 ^ i) : Nat) : Int)) ?_ (n := 64 - i)
      ⟨rfl, rfl, rfl, i, rfl, by omega, Nat.le_refl _, by simp⟩
    rintro m _ _ _ _ H3 ⟨rfl, rfl, rfl, j, rfl, hj, hij, rfl⟩
    intros
    unfold B76_1
    simp only [bin_gtr, oS, dT (show (i : Int) > 0 by omega), wB, btt, vT, bin_lss, pB, if_true]
    rw [condW_bool]
    have h1 : U % 2 ^ i < 2 ^ i := Nat.mod_lt _ (Nat.pow_pos (by decide))
    have hp := pow_le hij
    refine ⟨fun hlt => ?_, fun hge => ?_⟩
    · have hlt : j < 64 := by have := of_decide_eq_true hlt; omega
      have hp1 := pow_le (show j + 1 ≤ 64 by omega)
      have hp2 : 2 ^ (j + 1) = 2 ^ j * 2 := Nat.pow_succ ..
      have hm : s * (2 ^ j - 2 ^ i) ≤ 2 ^ j - 2 ^ i ∧ s * 2 ^ j ≤ 2 ^ j ∧ s * (2 ^ (j + 1) - 2 ^ i) = s * (2 ^ j - 2 ^ i) + s * 2 ^ j := by
        have : s = 0 ∨ s = 1 := by omega
        rcases this with h | h <;> rw [h] <;> omega
      obtain ⟨m1, m2, m3⟩ := hm
      have e1 : IntKind.i64.wrap ((i : Int) - 1) = ((i - 1 : Nat) : Int) := by rw [wrap_i64 (by omega) (by omega)]; omega
      have q1 : s * 2 ^ j < 2 ^ 64 := by omega
      have q2 : U % 2 ^ i + s * (2 ^ j - 2 ^ i) < 2 ^ 64 := by omega
      have q3 : U % 2 ^ i + s * (2 ^ j - 2 ^ i) < 2 ^ j := by omega
      rw [cv_2_114, oS, hu, bin_sub, oS, e1, shr_nat (by omega), oS, and_nat, oS, ← hs, shl_nat (show j ≤ 64 by omega) q1, oS, or_nat q2 q1, oS, or_add q3, bin_add, oS, wrap_i64 (by omega) (by omega)]
      exact ⟨m - 1, by omega, rfl, rfl, rfl, rfl, j + 1, by simp, by omega, by omega, by rw [m3, Nat.add_assoc]; rfl⟩
    · have hge : ¬ (j : Int) < 64 := of_decide_eq_false hge
      obtain rfl : j = 64 := by omega
      rw [cv_114_2', oS]
      refine ⟨?_, by trivial⟩
      unfold outS
      rw [← hs]

theorem out_is {w n : Int} (hn : I64 n) (hw : 0 < bitsS w) : IntKind.i64.wrap (outS (n % 18446744073709551616).toNat (bitsS w).toNat : Nat) = wrapS w n := by
  obtain ⟨h0, h1⟩ := hn
  have iw : ∀ z : Int, IntKind.i64.wrap z = if 9223372036854775808 ≤ z % 18446744073709551616 then z % 18446744073709551616 - 18446744073709551616 else z % 18446744073709551616 := by
    intro z
    simp only [IntKind.wrap, IntKind.bits, IntKind.signed]; simp
  unfold wrapS
  unfold bitsS at hw ⊢
  by_cases w1 : w = 1
  · simp only [if_pos w1]
    have hw8 : IntKind.i64.wrap (if 128 ≤ n % 256 then n % 256 - 256 else n % 256) = if 128 ≤ n % 256 then n % 256 - 256 else n % 256 := wrap_i64 (by split <;> omega) (by split <;> omega)
    rw [i8_wrap, hw8, iw]
    simp only [outS, show (8 : Int).toNat = 8 from rfl]
    split <;> split <;> omega
  simp only [if_neg w1] at hw ⊢
  by_cases w2 : w = 2
  · simp only [if_pos w2]
    have hw8 : IntKind.i64.wrap (if 2147483648 ≤ n % 4294967296 then n % 4294967296 - 4294967296 else n % 4294967296) = if 2147483648 ≤ n % 4294967296 then n % 4294967296 - 4294967296 else n % 4294967296 := wrap_i64 (by split <;> omega) (by split <;> omega)
    rw [i32_wrap, hw8, iw]
    simp only [outS, show (32 : Int).toNat = 32 from rfl]
    split <;> split <;> omega
  simp only [if_neg w2] at hw ⊢
  by_cases w3 : w = 3
  · simp only [if_pos w3]
    rw [iw]
    simp only [outS, show (64 : Int).toNat = 64 from rfl]
    split <;> omega
  simp only [if_neg w3] at hw
  omega

theorem fitsR_ok {H : AHeap} {w n : Int} (hn : I64 n) : FnX Try.prog E w0 63 [.int .u8 w, .int .i64 n] H fun v H' => v = .bool (decide (fitLo w ≤ n ∧ n ≤ fitHi w)) ∧ H' = H := by
  refine V63_ok ?_
  unfold V63
  refine bitsR_ok.use ?_
  rintro v H1 ⟨rfl, rfl⟩ _ _
  rw [bin_gtr, oS]
  have hi := fits_iff (w := w) hn
  by_cases hb : bitsS w > 0
  · simp only [hb, decide_true, wB, btt, vT, oS, gT]
    refine (wrapR_ok hb).use ?_
    rintro v H2 ⟨rfl, rfl⟩ _ _
    rw [out_is hn hb]
    simp only [oS, eqv_2, pB, if_true]
    refine ⟨?_, by trivial⟩
    congr 1
    by_cases hw : wrapS w n = n
    · rw [decide_eq_true (hi.1 ⟨hb, hw⟩), hw]; simp
    · rw [decide_eq_false (fun h => hw (hi.2 h).2)]; simpa using hw
  · simp only [hb, decide_false, wB, bft, vF, oS, gF, pB, Bool.false_eq_true, if_false]
    refine ⟨?_, by trivial⟩
    rw [decide_eq_false (fun h => hb (hi.2 h).1)]
end Go.Proofs.Ytcboaonbfgjmgaa.op

/-
  The document's parts.
-/
open Go.Proofs Go Go.Am
namespace Go.Proofs.Ytcboaonbfgjmgaa.op
open Go.Proofs.Ytcboaonbfgjmgaa.vb Go.Proofs.Ytcboaonbfgjmgaa.vr
set_option linter.unusedVariables false
set_option linter.unusedSimpArgs false
set_option maxRecDepth 100000

variable {E : Env} {w0 : World}

theorem or5 {a : Bool} {n m : Int} {x y : Operand} {K : AV → Prop} : (optW (valG (wantsA (.bool a) false) (some (.int .u8 n))) fun v13 => optW (valG (wantsA (.bool a) false) (binV Try.prog .eql 5 x y v13 (.int .u8 m))) fun v14 => optW (pickV (.bool a) (.bool true) v14) K) = K (.bool (a || n == m)) := by
  cases a
  · simp only [wB, bff, vT, oS, eqv_5, pB, Bool.false_eq_true, if_false, Bool.false_or]
  · simp only [wB, btf, vF, oS, pB, if_true, Bool.true_or]
theorem and5 {n m k : Int} {K : AV → Prop} : (optW (binA Try.prog .geq 5 (.int .u8 n) (.int .u8 m)) fun v => optW (valG (wantsA v true) (some (.int .u8 n))) fun v' => optW (valG (wantsA v true) (binA Try.prog .leq 5 v' (.int .u8 k))) fun w => optW (pickV v w (.bool false)) K) = K (.bool (decide (m ≤ n ∧ n ≤ k))) := by
  rw [bin_geq, oS]
  by_cases h : n ≥ m
  · by_cases h2 : n ≤ k
    · simp only [dT h, dT h2, dT (show m ≤ n ∧ n ≤ k from ⟨h, h2⟩), wB, btt, vT, oS, bin_leq, pB, if_true]
    · simp only [dT h, dF h2, dF (show ¬ (m ≤ n ∧ n ≤ k) from fun e => h2 e.2), wB, btt, vT, oS, bin_leq, pB, if_true]
  · simp only [dF h, dF (show ¬ (m ≤ n ∧ n ≤ k) from fun e => h e.1), wB, bft, vF, oS, pB, Bool.false_eq_true, if_false]
theorem orand5 {a : Bool} {n m k : Int} {K : AV → Prop} : (optW (valG (wantsA (.bool a) false) (some (.int .u8 n))) fun v25 => optW (valG (wantsA (.bool a) false) (binA Try.prog .geq 5 v25 (.int .u8 m))) fun v26 => optW (valG (wantsA (.bool a) false) (some v26)) fun v27 => optW (valG (wantsA v27 true) (some (.int .u8 n))) fun v28 =>
    optW (valG (wantsA v27 true) (binA Try.prog .leq 5 v28 (.int .u8 k))) fun v29 => optW (valG (wantsA (.bool a) false) (pickV v27 v29 (.bool false))) fun v30 => optW (pickV (.bool a) (.bool true) v30) K) = K (.bool (a || decide (m ≤ n ∧ n ≤ k))) := by
  cases a
  · simp only [wB, bff, vT, oS, bin_geq]
    by_cases h : n ≥ m
    · by_cases h2 : n ≤ k
      · simp only [dT h, dT h2, dT (show m ≤ n ∧ n ≤ k from ⟨h, h2⟩), wB, btt, vT, oS, bin_leq, pB, if_true, Bool.false_eq_true, if_false, Bool.or_true]
      · simp only [dT h, dF h2, dF (show ¬ (m ≤ n ∧ n ≤ k) from fun e => h2 e.2), wB, btt, vT, oS, bin_leq, pB, if_true, Bool.false_eq_true, if_false, Bool.or_false]
    · simp only [dF h, dF (show ¬ (m ≤ n ∧ n ≤ k) from fun e => h e.1), wB, bft, vF, oS, pB, Bool.false_eq_true, if_false, Bool.or_false]
  · have hu : wantsA undefA true = some false := rfl
    simp only [wB, btf, vF, oS, hu, pB, if_true, Bool.true_or]

/-- A part's cells. -/
def partc (f : Fd) : List AV := [.int .i64 (f.size : Int), .int .i64 f.lo, .int .i64 f.hi, .bool (decide (f.lo < 0))]
/-- Parts. -/
def PartsAt (X : Nat → Prop) (H : AHeap) (lv : AV) (l : List Fd) : Prop :=
  (lv = .nilSlc ∧ l = []) ∨ ∃ k cap ex all pre, lv = .slc (.new k) 0 l.length cap ex 4 ∧ H.get k = some (.cells all true pre) ∧ X k ∧ ∀ j f, l[j]? = some f → (all.drop (j * 4)).take 4 = partc f
section
variable {H H' : AHeap} {X Y : Nat → Prop} {lv : AV} {l : List Fd}
theorem PartsAt.keep (h : PartsAt X H lv l) (hk : Keeps X H H') : PartsAt X H' lv l := by
  rcases h with h | ⟨k, cap, ex, all, pre, e, g, x, hf⟩
  · exact .inl h
  · exact .inr ⟨k, cap, ex, all, pre, e, hk _ _ _ x g, x, hf⟩
theorem PartsAt.less (h : PartsAt X H lv l) (F : Fine H) (hxy : ∀ k, k < H.next → X k → Y k) : PartsAt Y H lv l := by
  rcases h with h | ⟨k, cap, ex, all, pre, e, g, x, hf⟩
  · exact .inl h
  · exact .inr ⟨k, cap, ex, all, pre, e, g, hxy _ (F.lt g) x, hf⟩
theorem PartsAt.len (h : PartsAt X H lv l) (H2 : AHeap) : lenV Try.prog H2 69 lv = some (.int .i64 l.length) := by
  rcases h with ⟨rfl, rfl⟩ | ⟨k, cap, ex, all, pre, rfl, _⟩
  · exact len0_69 _
  · exact len_69 ..
theorem PartsAt.at (h : PartsAt X H lv l) {j : Nat} {f : Fd} (hj : l[j]? = some f) : ∃ k i, indexAtA Try.prog 69 lv (.int .i64 (j : Int)) = some (.ptr (.new k) i) ∧ loadV Try.prog E H 74 (.ptr (.new k) i) = some (.agg (partc f)) ∧ loadCell E H (.new k) i = some (.int .i64 (f.size : Int)) := by
  have hlt : j < l.length := (List.getElem?_eq_some_iff.1 hj).1
  rcases h with ⟨rfl, rfl⟩ | ⟨k, cap, ex, all, pre, rfl, g, x, hf⟩
  · simp at hj
  · have a := hf j f hj
    have hl := congrArg List.length a
    simp only [List.length_take, List.length_drop, partc, List.length_cons, List.length_nil] at hl
    have a0 := congrArg (fun l => l[0]?) a
    simp [partc] at a0
    refine ⟨k, j * 4, ?_, ?_, ?_⟩
    · rw [ix_69, if_pos ⟨by omega, by omega⟩]; simp
    · rw [ld_74, loadRange_new E g, if_pos (by omega), a]
      rfl
    · rw [loadCell_new E g]; exact a0

theorem bs_69 (H : AHeap) (a b c d : AV) : buildSliceA Try.prog H 69 1 [(0, .agg [a, b, c, d])] = some (.slc (.new H.next) 0 1 1 true 4, newCells H [a, b, c, d]) := by kernel_rfl
theorem bs2_69 (H : AHeap) (a b c d a' b' c' d' : AV) : buildSliceA Try.prog H 69 2 [(0, .agg [a, b, c, d]), (1, .agg [a', b', c', d'])] = some (.slc (.new H.next) 0 2 2 true 4, newCells H [a, b, c, d, a', b', c', d']) := by kernel_rfl
theorem bld_s (s lo hi : Int) (b : Bool) : buildA Try.prog 74 [(0, .int .i64 s), (1, .int .i64 lo), (2, .int .i64 hi), (3, .bool b)] = some (.agg [.int .i64 s, .int .i64 lo, .int .i64 hi, .bool b]) := by kernel_rfl
theorem bld_h (s hi : Int) : buildA Try.prog 74 [(0, .int .i64 s), (2, .int .i64 hi)] = some (.agg [.int .i64 s, .int .i64 0, .int .i64 hi, .bool false]) := by kernel_rfl
theorem bld_w (s lo hi : Int) : buildA Try.prog 74 [(0, .int .i64 s), (1, .int .i64 lo), (2, .int .i64 hi)] = some (.agg [.int .i64 s, .int .i64 lo, .int .i64 hi, .bool false]) := by kernel_rfl
theorem sz_74 {a b c d : AV} : sizeA Try.prog 74 = some (AV.cells (.agg [a, b, c, d])).length := by kernel_rfl

theorem one_part (F : Fine H) {f : Fd} (hX : ∀ k, H.next ≤ k → X k) {K : AV → AHeap → Prop} (hK : ∀ lv H', PartsAt X H' lv [f] → Stays H H' → K lv H') : opt2W (buildSliceA Try.prog H 69 1 [(0, .agg (partc f))]) K := by
  unfold partc
  rw [bs_69, o2S]
  obtain ⟨a, b, c, d⟩ := F.newCells (partc f)
  refine hK _ _ (.inr ⟨H.next, 1, true, _, _, rfl, a, hX _ (Nat.le_refl _), fun j g hj => ?_⟩) b
  cases j with
  | zero => cases hj; rfl
  | succ j => simp at hj
theorem two_parts (F : Fine H) {f g : Fd} (hX : ∀ k, H.next ≤ k → X k) {K : AV → AHeap → Prop} (hK : ∀ lv H', PartsAt X H' lv [f, g] → Stays H H' → K lv H') : opt2W (buildSliceA Try.prog H 69 2 [(0, .agg (partc f)), (1, .agg (partc g))]) K := by
  unfold partc
  rw [bs2_69, o2S]
  obtain ⟨a, b, c, d⟩ := F.newCells (partc f ++ partc g)
  refine hK _ _ (.inr ⟨H.next, 2, true, _, _, rfl, a, hX _ (Nat.le_refl _), fun j g hj => ?_⟩) b
  cases j with
  | zero => cases hj; rfl
  | succ j =>
    cases j with
    | zero => cases hj; rfl
    | succ j => simp at hj

/-- A part that is answered from a box. -/
theorem boxed_part (F : Fine H) {f : Fd} {K : AV → AHeap → Prop} (hK : ∀ H', Fine H' → Stays H H' → K (.agg (partc f)) H') :
    withW (.ptr (.new H.next) 0) (newCells H (AV.cells (.agg [(.int .i64 0), (.int .i64 0), (.int .i64 0), (.bool false)]))) fun p2 H0 => storeW Try.prog H0 74 p2 (.agg (partc f)) fun _ H5 => cellW Try.prog E H5 74 p2 fun v6 => K v6 H5 := by
  rw [wW]
  have hz : AV.cells (.agg [(.int .i64 0), (.int .i64 0), (.int .i64 0), (.bool false)]) = [.int .i64 0, .int .i64 0, .int .i64 0, .bool false] := rfl
  rw [hz]
  obtain ⟨a1, a2, a3, F1⟩ := F.newCells [AV.int .i64 0, .int .i64 0, .int .i64 0, .bool false]
  obtain ⟨H2, c1, c2, c3, c4, F2⟩ := F1.stores a1 (n := 0) (vs := partc f) (by simp [partc]) (by simp [partc]) (by rfl)
  rw [setMany_all (by rfl)] at c2
  refine storesW sz_74 c1 ?_
  show optW (loadVarA Try.prog E H2 74 (.new H.next) 0) _
  rw [lv_74, loadRange_new E c2, if_pos (by simp [partc])]
  have ht : ((partc f).drop 0).take 4 = partc f := rfl
  rw [ht, Option.bind_some, oS]
  exact hK H2 F2 fun k all pre hk => c3 _ _ _ (by have := F.lt hk; omega) (a2 _ _ _ hk)

theorem leap_ok (F : Fine H) : FnX Try.prog E w0 49 [] H fun v H' => v = .agg (partc fLeap) ∧ Stays H H' := by
  refine V49_ok ?_
  unfold V49
  simp only [zero_74, oS, bld_h]
  exact boxed_part F (f := fLeap) fun H' _ s => ⟨rfl, s⟩
theorem place_ok (F : Fine H) : FnX Try.prog E w0 64 [] H fun v H' => v = .agg (partc fIx) ∧ Stays H H' := by
  refine V64_ok ?_
  unfold V64
  simp only [zero_74, oS, bld_h]
  exact boxed_part F (f := fIx) fun H' _ s => ⟨rfl, s⟩
theorem width_ok (F : Fine H) {n : Int} : FnX Try.prog E w0 65 [.int .i64 n] H fun v H' => v = .agg (partc ⟨1, 1, n⟩) ∧ Stays H H' := by
  refine V65_ok ?_
  unfold V65
  simp only [zero_74, oS, bld_w]
  exact boxed_part F (f := ⟨1, 1, n⟩) fun H' _ s => ⟨rfl, s⟩

theorem within_ok (F : Fine H) {f : Fd} {n : Int} : FnX Try.prog E w0 62 [.agg (partc f), .int .i64 n] H fun v H' => v = .bool (f.may n) ∧ Stays H H' := by
  refine V62_ok ?_
  unfold V62
  have hz : AV.cells (.agg (partc f)) = partc f := rfl
  obtain ⟨a1, a2, a3, F1⟩ := F.newCells (partc f)
  rw [wW, hz]
  have l1 : loadV Try.prog E (newCells H (partc f)) 2 (.ptr (.new H.next) 1) = some (.int .i64 f.lo) := by rw [ld_2, loadCell_new E a1]; rfl
  have l2 : loadV Try.prog E (newCells H (partc f)) 2 (.ptr (.new H.next) 2) = some (.int .i64 f.hi) := by rw [ld_2, loadCell_new E a1]; rfl
  simp only [fa_74_1, fa_74_2, oS, Nat.zero_add, l1, l2, bin_geq]
  unfold Fd.may
  by_cases h : n ≥ f.lo
  · by_cases h2 : n ≤ f.hi
    · simp only [dT h, dT h2, dT (show f.lo ≤ n ∧ n ≤ f.hi from ⟨h, h2⟩), wB, btt, vT, oS, bin_leq, pB, if_true, fa_74_2, Nat.zero_add, l2]
      exact ⟨by trivial, a2⟩
    · simp only [dT h, dF h2, dF (show ¬ (f.lo ≤ n ∧ n ≤ f.hi) from fun e => h2 e.2), wB, btt, vT, oS, bin_leq, pB, if_true, fa_74_2, Nat.zero_add, l2]
      exact ⟨by trivial, a2⟩
  · simp only [dF h, dF (show ¬ (f.lo ≤ n ∧ n ≤ f.hi) from fun e => h e.1), wB, bft, vF, oS, pB, Bool.false_eq_true, if_false]
    exact ⟨by trivial, a2⟩

/-- The document's order of the cases. -/
def layR (op : Int) : Option (List Fd) :=
  if op = 1 then some [⟨1, -128, 127⟩] else if op = 2 then some [⟨4, -2147483648, 2147483647⟩] else if op = 3 then some [⟨8, -9223372036854775808, 9223372036854775807⟩]
  else if (op == 6 || op == 7 || op == 8 || op == 50 || op == 36 || decide (39 ≤ op ∧ op ≤ 45)) = true then some [fIx] else if (op == 37 || op == 38) = true then some [fIx, fIx]
  else if (op == 23 || op == 24) = true then some [⟨1, 1, 5⟩] else if decide (11 ≤ op ∧ op ≤ 28) = true then some [fWid] else if op = 29 then some [fWid, fWid]
  else if (op == 46 || op == 47 || op == 48) = true then some [fLeap] else if op = 52 then some [⟨1, 0, 255⟩] else if op = 49 then some [fWid] else if decide (1 ≤ op ∧ op ≤ 52) = true then some [] else none
theorem layR_is (op : Int) : layR op = lay op := by
  unfold layR lay
  by_cases h1 : op = 1
  · rw [if_pos h1, if_pos h1]; rfl
  rw [if_neg h1, if_neg h1]
  by_cases h2 : op = 2
  · rw [if_pos h2, if_pos h2]; rfl
  rw [if_neg h2, if_neg h2]
  by_cases h3 : op = 3
  · rw [if_pos h3, if_pos h3]; rfl
  rw [if_neg h3, if_neg h3]
  unfold lay0
  have e : (op == 6 || op == 7 || op == 8 || op == 50 || op == 36 || decide (39 ≤ op ∧ op ≤ 45)) = (op == 6 || op == 7 || op == 8 || op == 50 || op == 36 || op == 39 || op == 40 || op == 41 || op == 42 || op == 43 || op == 44 || op == 45) := by
    rw [Bool.eq_iff_iff]
    simp only [Bool.or_eq_true, beq_iff_eq, decide_eq_true_eq]
    omega
  rw [e]
  by_cases h4 : (op == 6 || op == 7 || op == 8 || op == 50 || op == 36 || op == 39 || op == 40 || op == 41 || op == 42 || op == 43 || op == 44 || op == 45) = true
  · rw [if_pos h4, if_pos h4]
  rw [if_neg h4, if_neg h4]
  unfold lay1
  by_cases h5 : (op == 37 || op == 38) = true
  · rw [if_pos h5, if_pos h5]
  rw [if_neg h5, if_neg h5]
  unfold lay2
  by_cases h6 : (op == 23 || op == 24) = true
  · rw [if_pos h6, if_pos h6]
  rw [if_neg h6, if_neg h6]
  unfold lay3
  by_cases h7 : 11 ≤ op ∧ op ≤ 28
  · have g1 : ¬ (op == 46 || op == 47 || op == 48) = true := by simp only [Bool.or_eq_true, beq_iff_eq]; omega
    rw [if_pos (by simpa using h7), if_neg (show ¬ op = 29 by omega), if_neg g1, if_neg (show ¬ op = 52 by omega), if_neg (show ¬ op = 49 by omega), if_pos h7]
  · have g1 : ¬ decide (11 ≤ op ∧ op ≤ 28) = true := by simpa using h7
    rw [if_neg g1]
    by_cases h8 : op = 29
    · rw [if_pos h8, if_pos h8]
    rw [if_neg h8, if_neg h8]
    by_cases h9 : (op == 46 || op == 47 || op == 48) = true
    · rw [if_pos h9, if_pos h9]
    rw [if_neg h9, if_neg h9]
    by_cases h10 : op = 52
    · rw [if_pos h10, if_pos h10]
    rw [if_neg h10, if_neg h10]
    by_cases h11 : op = 49
    · rw [if_pos h11, if_pos h11]
    rw [if_neg h11, if_neg h11, if_neg h7]
    by_cases h12 : 1 ≤ op ∧ op ≤ 52
    · rw [if_pos (by simpa using h12), if_pos h12]
    · rw [if_neg (by simpa using h12), if_neg h12]

theorem parts_ok (F : Fine H) {op : Int} : FnX Try.prog E w0 38 [.int .u8 op] H fun v H' => ∃ lv, v = .tup [lv, .bool (lay op).isSome] ∧ PartsAt (fun k => H.next ≤ k) H' lv ((lay op).getD []) ∧ Stays H H' := by
  rw [← layR_is]
  refine V38_ok ?_
  unfold V38 layR
  have hX : ∀ k, H.next ≤ k → (fun k => H.next ≤ k) k := fun _ h => h
  simp only [eqv_5, oS, or5, orand5, and5, bld_s, bld_h, condW_bool, beq_iff_eq, beq_eq_false_iff_ne, ne_eq]
  refine ⟨fun h => ?_, fun h1 => ⟨fun h => ?_, fun h2 => ⟨fun h => ?_, fun h3 => ⟨fun h => ?_, fun h4 => ⟨fun h => ?_, fun h5 => ⟨fun h => ?_, fun h6 => ⟨fun h => ?_, fun h7 => ⟨fun h => ?_, fun h8 => ⟨fun h => ?_, fun h9 => ⟨fun h => ?_, fun h10 => ⟨fun h => ?_, fun h11 => ?_⟩⟩⟩⟩⟩⟩⟩⟩⟩⟩⟩
  · rw [if_pos h]; exact one_part F (f := ⟨1, -128, 127⟩) hX fun lv H' hf s => ⟨lv, rfl, hf, s⟩
  all_goals rw [if_neg h1]
  · rw [if_pos h]; exact one_part F (f := ⟨4, -2147483648, 2147483647⟩) hX fun lv H' hf s => ⟨lv, rfl, hf, s⟩
  all_goals rw [if_neg h2]
  · rw [if_pos h]; exact one_part F (f := ⟨8, -9223372036854775808, 9223372036854775807⟩) hX fun lv H' hf s => ⟨lv, rfl, hf, s⟩
  all_goals rw [if_neg h3]
  · rw [if_pos h]
    refine (place_ok F).use ?_
    rintro v H1 ⟨rfl, s1⟩ F1 n1
    exact one_part F1 (fun k hk => by omega) fun lv H' hf s => ⟨lv, rfl, hf, stays_trans s1 s⟩
  all_goals rw [if_neg (by rw [h4]; exact Bool.false_ne_true)]
  · rw [if_pos h]
    refine (place_ok F).use ?_
    rintro v H1 ⟨rfl, s1⟩ F1 n1
    refine (place_ok F1).use ?_
    rintro v H2 ⟨rfl, s2⟩ F2 n2
    exact two_parts F2 (fun k hk => by omega) fun lv H' hf s => ⟨lv, rfl, hf, stays_trans s1 (stays_trans s2 s)⟩
  all_goals rw [if_neg (by rw [h5]; exact Bool.false_ne_true)]
  · rw [if_pos h]
    refine (width_ok F).use ?_
    rintro v H1 ⟨rfl, s1⟩ F1 n1
    exact one_part F1 (fun k hk => by omega) fun lv H' hf s => ⟨lv, rfl, hf, stays_trans s1 s⟩
  all_goals rw [if_neg (by rw [h6]; exact Bool.false_ne_true)]
  · rw [if_pos h]
    refine (width_ok F).use ?_
    rintro v H1 ⟨rfl, s1⟩ F1 n1
    exact one_part F1 (fun k hk => by omega) fun lv H' hf s => ⟨lv, rfl, hf, stays_trans s1 s⟩
  all_goals rw [if_neg (by rw [h7]; exact Bool.false_ne_true)]
  · rw [if_pos h]
    refine (width_ok F).use ?_
    rintro v H1 ⟨rfl, s1⟩ F1 n1
    refine (width_ok F1).use ?_
    rintro v H2 ⟨rfl, s2⟩ F2 n2
    exact two_parts F2 (fun k hk => by omega) fun lv H' hf s => ⟨lv, rfl, hf, stays_trans s1 (stays_trans s2 s)⟩
  all_goals rw [if_neg h8]
  · rw [if_pos h]
    refine (leap_ok F).use ?_
    rintro v H1 ⟨rfl, s1⟩ F1 n1
    exact one_part F1 (fun k hk => by omega) fun lv H' hf s => ⟨lv, rfl, hf, stays_trans s1 s⟩
  all_goals rw [if_neg (by rw [h9]; exact Bool.false_ne_true)]
  · rw [if_pos h]; exact one_part F (f := ⟨1, 0, 255⟩) hX fun lv H' hf s => ⟨lv, rfl, hf, s⟩
  all_goals rw [if_neg h10]
  · rw [if_pos h]
    refine (width_ok F).use ?_
    rintro v H1 ⟨rfl, s1⟩ F1 n1
    exact one_part F1 (fun k hk => by omega) fun lv H' hf s => ⟨lv, rfl, hf, stays_trans s1 s⟩
  rw [if_neg h11]
  by_cases h12 : 1 ≤ op ∧ op ≤ 52
  · rw [if_pos (dT h12), dT h12]
    exact ⟨_, rfl, .inl ⟨rfl, rfl⟩, fun _ _ _ h => h⟩
  · rw [if_neg (by rw [dF h12]; exact Bool.false_ne_true), dF h12]
    exact ⟨_, rfl, .inl ⟨rfl, rfl⟩, fun _ _ _ h => h⟩
end
end Go.Proofs.Ytcboaonbfgjmgaa.op

/-
  The document's 'is'.
-/
open Go.Proofs Go Go.Am
namespace Go.Proofs.Ytcboaonbfgjmgaa.op
open Go.Proofs.Ytcboaonbfgjmgaa.vb Go.Proofs.Ytcboaonbfgjmgaa.vr
set_option linter.unusedVariables false
set_option linter.unusedSimpArgs false
set_option maxRecDepth 100000

variable {E : Env} {w0 : World}

theorem In.loads {H' : AHeap} {x : In} {k : Nat} (hg : H'.get k = some (.cells x.cells true [])) : loadV Try.prog E H' 5 (.ptr (.new k) 0) = some (.int .u8 x.op) ∧ loadV Try.prog E H' 2 (.ptr (.new k) 1) = some (.int .i64 x.a) ∧ loadV Try.prog E H' 2 (.ptr (.new k) 2) = some (.int .i64 x.b) ∧
    loadV Try.prog E H' 22 (.ptr (.new k) 3) = some x.av ∧ loadV Try.prog E H' 24 (.ptr (.new k) 0) = some (.agg x.cells) :=
  ⟨by rw [ld_5, loadCell_new E hg]; rfl, by rw [ld_2, loadCell_new E hg]; rfl, by rw [ld_2, loadCell_new E hg]; rfl, by rw [ld_22, loadCell_new E hg]; rfl, by rw [ld_24, loadRange_new E hg, if_pos (by simp [In.cells])]; rfl⟩

theorem armOk_is (w : Int) (y : Int × Int) : armOk w y = (decide (fitLo w ≤ y.1 ∧ y.1 ≤ fitHi w) && fLeap.may y.2) := rfl
theorem wU (w : Bool) : wantsA undefA w = some false := (rfl)

section
variable {H : AHeap}

/-- The switch's part of it. -/
theorem isLoop {x : In} (ho : x.Ok) {k1 : Nat} {H1 : AHeap} (F1 : Fine H1) (hg : H1.get k1 = some (.cells x.cells true [])) (hA : ArmsAt E All H1 x.av x.arms) (hs : Stays H H1) {c : Bool}
    (hS : c = (decide (x.arms.length ≤ 65535) && x.arms.all (armOk (IntKind.u8.wrap x.a)) && decide (0 ≤ x.b ∧ x.b ≤ 4294967295)))
    {x0 x2 x3 x4 x6 x7 x8 x9 x10 x11 x12 x13 x14 x15 x16 x17 x18 x19 x20 x21 x22 x23 x24 x25 x26 x27 x28 x29 x30 x31 x32 x33 x34 x35 x36 x37 x38 x39 x40 x41 x42 x43 x44 x45 x46 x47 x48 x49 x50 x51 x52 x53 x54 x55 x56 x57 x58 x59 x60 x61 x62 x63 x64 x65 x66 x67 x68 x69 x70 x71 x72 x73 x74 x75 x76 x77 x78 x79 x80 x81 x82 x83 x84 x85 x86 x87 x88 x89 x90 x91 x92 x93 x94 x95 x96 x97 x98 x99 x100 x101 x102 x103 x104 : AV} :
    CodeX Try.prog E w0 (.loop L37_0) [x0, .ptr (.new k1) 0, x2, x3, x4, .int .i64 0, x6, x7, x8, x9, x10, x11, x12, x13, x14, x15, x16, x17, x18, x19, x20, x21, x22, x23, x24, x25, x26, x27, x28, x29, x30, x31, x32, x33, x34, x35, x36, x37, x38, x39, x40, x41, x42, x43, x44, x45, x46, x47, x48, x49, x50, x51, x52, x53, x54, x55, x56, x57, x58, x59, x60, x61, x62, x63, x64, x65, x66, x67, x68, x69, x70, x71, x72, x73, x74, x75, x76, x77, x78, x79, x80, x81, x82, x83, x84, x85, x86, x87, x88, x89, x90, x91, x92, x93, x94, x95, x96, x97, x98, x99, x100, x101, x102, x103, x104] H1
      (K37_0 E w0 fun v H' => v = .bool c ∧ Stays H H') := by
  refine loop37_0 (I := fun n t1 t5 H' => t1 = .ptr (.new k1) 0 ∧ ∃ i : Nat, t5 = .int .i64 (i : Int) ∧ i + n = x.arms.length ∧ Fine H' ∧ Stays H1 H' ∧ x.arms.all (armOk (IntKind.u8.wrap x.a)) = (x.arms.drop i).all (armOk (IntKind.u8.wrap x.a))) ?_ (n := x.arms.length)
    ⟨rfl, 0, rfl, by omega, F1, fun _ _ _ h => h, rfl⟩
  rintro n _ _ H2 ⟨rfl, i, rfl, hi, F2, s2, hall⟩
  intros
  unfold B37_0
  have g2 := s2 _ _ _ hg
  have A2 := hA.keep (Keeps.of s2)
  obtain ⟨l0, l1, l2, l3, l4⟩ := In.loads (E := E) g2
  have s02 := stays_trans hs s2
  have hsh := ho.short
  simp only [fa_24_3, fa_24_1, fa_24_2, Nat.zero_add, oS, l3, hA.len, bin_lss]
  rw [condW_bool]
  refine ⟨fun hlt => ?_, fun hge => ?_⟩
  · have hlt : i < x.arms.length := by have := of_decide_eq_true hlt; omega
    obtain ⟨y, hy⟩ : ∃ y, y = x.arms[i] := ⟨_, rfl⟩
    obtain ⟨hy1, hy2⟩ := ho.arms y (by rw [hy]; exact List.getElem_mem _)
    have hyj : x.arms[i]? = some y := by rw [hy]; exact List.getElem?_eq_getElem hlt
    obtain ⟨o, q, e1, e2, e3, e4⟩ := A2.at hyj
    have e3 : loadV Try.prog E H2 2 (.ptr o q) = some (.int .i64 y.1) := by rw [ld_2, e3]
    simp only [l1, oS, cv_2_5, e1, fa_49_0, Nat.add_zero, e3, true_and, and_true]
    rw [List.drop_eq_getElem_cons hlt, List.all_cons, ← hy, armOk_is] at hall
    refine (fitsR_ok hy1).use ?_
    rintro v H3 ⟨rfl, rfl⟩ _ _
    simp only [un_not, oS, true_and]
    by_cases hf : fitLo (IntKind.u8.wrap x.a) ≤ y.1 ∧ y.1 ≤ fitHi (IntKind.u8.wrap x.a)
    · rw [dT hf] at hall
      simp only [dT hf, Bool.not_true, wB, bff, vT, oS, gT]
      refine (leap_ok F2).use ?_
      rintro v H4 ⟨rfl, s4⟩ F4 n4
      have g4 := s4 _ _ _ g2
      obtain ⟨m0, m1, m2, m3, m4⟩ := In.loads (E := E) g4
      obtain ⟨o', q', e1', _, _, e4'⟩ := (A2.keep (Keeps.of s4)).at hyj
      have ee : AV.ptr o' q' = AV.ptr o q := by rw [e1] at e1'; exact (Option.some.inj e1').symm
      cases ee
      have e4' : loadV Try.prog E H4 3 (.ptr o (q + 1)) = some (.int .i64 y.2) := by rw [ld_3, e4']
      have e4 : loadV Try.prog E H3 3 (.ptr o (q + 1)) = some (.int .i64 y.2) := by rw [ld_3, e4]
      simp only [vT, oS, fa_24_3, Nat.zero_add, m3, l3, e1, fa_49_1, e4', e4, true_and, and_true, gT]
      refine (within_ok F4).use ?_
      rintro v H5 ⟨rfl, s5⟩ F5 n5
      simp only [vT, oS, un_not, pB, Bool.false_eq_true, if_false, true_and]
      cases hm : fLeap.may y.2 with
      | false =>
        simp only [Bool.not_false, cT]
        rw [hm] at hall
        refine ⟨?_, stays_trans s02 (stays_trans s4 s5)⟩
        rw [hS, hall]
        simp only [Bool.and_false, Bool.false_and, Bool.and_self]
      | true =>
        rw [hm] at hall
        simp only [Bool.not_true, cF, bin_add, oS]
        rw [wrap_i64 (by omega) (by omega)]
        exact ⟨n - 1, by omega, rfl, rfl, i + 1, by simp, by omega, F5, stays_trans s2 (stays_trans s4 s5), by rw [hall]; simp only [Bool.true_and]⟩
    · rw [dF hf] at hall
      simp only [dF hf, Bool.not_false, wB, btf, vF, oS, gF, wU, pB, if_true, true_and, and_true, cT]
      refine ⟨?_, s02⟩
      rw [hS, hall]
      simp only [Bool.false_and, Bool.and_false]
  · have hge : ¬ (i : Int) < x.arms.length := of_decide_eq_false hge
    rw [List.drop_eq_nil_of_le (by omega), List.all_nil] at hall
    simp only [true_and, bin_leq, oS]
    by_cases hl : (x.arms.length : Int) ≤ 65535
    · simp only [dT hl, wB, btt, gT, vT, oS]
      refine (leap_ok F2).use ?_
      rintro v H4 ⟨rfl, s4⟩ F4 n4
      have g4 := s4 _ _ _ g2
      obtain ⟨m0, m1, m2, m3, m4⟩ := In.loads (E := E) g4
      simp only [fa_24_2, Nat.zero_add, m2, l2, oS, true_and, and_true]
      refine (within_ok F4).use ?_
      rintro v H5 ⟨rfl, s5⟩ F5 n5
      simp only [pB, if_true, oS, true_and]
      refine ⟨?_, stays_trans s02 (stays_trans s4 s5)⟩
      rw [hS, hall, dT (show x.arms.length ≤ 65535 by omega)]
      simp only [Bool.true_and]
      rfl
    · simp only [dF hl, wB, bft, gF, vF, oS, pB, Bool.false_eq_true, if_false, true_and, and_true]
      refine ⟨?_, s02⟩
      rw [hS, dF (show ¬ x.arms.length ≤ 65535 by omega)]
      simp only [Bool.false_and]

theorem is_ok (F : Fine H) {x : In} (ho : x.Ok) (ha : ArmsAt E All H x.av x.arms) : FnX Try.prog E w0 37 [.agg x.cells] H fun v H' => v = .bool (isS x) ∧ Stays H H' := by
  refine V37_ok ?_
  unfold V37
  have hcl : AV.cells (.agg x.cells) = x.cells := rfl
  obtain ⟨a1, a2, a3, F1⟩ := F.newCells x.cells
  rw [wW, hcl]
  generalize hH1 : newCells H x.cells = H1 at *
  simp only [fa_24_0, fa_24_1, fa_24_2, fa_24_3, oS, Nat.add_zero, Nat.zero_add, (In.loads (E := E) a1).1]
  refine (parts_ok F1).use ?_
  rintro v2 H2 ⟨lv, rfl, pl, s2⟩ F2 n2
  simp only [ex0, ex1, oS, un_not]
  have g2 := s2 _ _ _ a1
  have s02 := stays_trans a2 s2
  have A2 : ArmsAt E All H2 x.av x.arms := ha.keep (Keeps.of s02)
  cases hlay : lay x.op with
  | none =>
    have hS : isS x = false := by unfold isS; rw [hlay]; rfl
    rw [hS]
    simp only [Option.isSome_none, Bool.not_false, wB, btf, vF, oS, wU, gF, pB, if_true, true_and, and_true, cT]
    exact s02
  | some l =>
    rw [hlay] at pl
    have hll : l.length ≤ 2 := by have := lay_length (op := x.op); rw [hlay] at this; exact this
    simp only [Option.getD_some] at pl
    simp only [Option.isSome_some, Bool.not_true, wB, bff, vT, oS]
    have hS : isS x = (fldOk x 0 l && if x.op = 49 then decide (x.arms.length ≤ 65535) && x.arms.all (armOk (IntKind.u8.wrap x.a)) && decide (0 ≤ x.b ∧ x.b ≤ 4294967295)
        else decide (x.arms.length = 0) && (decide (2 ≤ l.length) || decide (x.b = 0)) && (decide (1 ≤ l.length) || decide (x.a = 0))) := by
      unfold isS; rw [hlay]; simp only [Option.isSome_some, Bool.true_and, Option.getD_some]
    match l, hll with
    | [], _ =>
      have len : ∀ H2, lenV Try.prog H2 69 lv = some (.int .i64 0) := fun H2 => pl.len H2
      have d1 : decide ((0 : Int) > 0) = false := rfl
      have d2 : decide ((0 : Int) > 1) = false := rfl
      have d3 : decide ((0 : Int) < 2) = true := rfl
      have d4 : ((0 : Int) == 0) = true := rfl
      simp only [len, d1, d4, oS, wB, btt, btf, bft, bff, vT, vF, wU, gT, gF, pB, if_true, Bool.false_eq_true, if_false, true_and, and_true, un_not, bin_gtr, bin_lss, eqv_3, (In.loads (E := E) g2).2.1, nev_2]
      by_cases ha0 : x.a = 0
      · have hb : (x.a != 0) = false := by rw [ha0]; rfl
        have hS : isS x = (if x.op = 49 then decide (x.arms.length ≤ 65535) && x.arms.all (armOk (IntKind.u8.wrap x.a)) && decide (0 ≤ x.b ∧ x.b ≤ 4294967295) else decide (x.arms.length = 0) && decide (x.b = 0)) := by
          rw [hS, dT ha0]
          simp [fldOk]
        simp only [hb, cF]
        rw [(In.loads (E := E) g2).1, oS, eqv_5, oS, condW_bool]
        refine ⟨fun h49 => ?_, fun h49 => ?_⟩
        · have h49 : x.op = 49 := by simpa using h49
          rw [if_pos h49] at hS
          exact isLoop ho F2 g2 A2 s02 hS
        have h49 : ¬ x.op = 49 := by simpa using h49
        rw [if_neg h49] at hS
        rw [(In.loads (E := E) g2).2.2.2.1, oS, A2.len, oS, bin_gtr, oS]
        by_cases c1 : (x.arms.length : Int) > 0
        · simp only [dT c1, cT]
          refine ⟨?_, s02⟩
          rw [hS, dF (show ¬ x.arms.length = 0 by omega)]
          simp only [Bool.false_and]
        simp only [dF c1, cF]
        rw [dT (show x.arms.length = 0 by omega)] at hS
        simp only [len, d2, d3, oS, wB, btt, btf, bft, bff, vT, vF, wU, gT, gF, pB, if_true, Bool.false_eq_true, if_false, true_and, and_true, un_not, bin_gtr, bin_lss, (In.loads (E := E) g2).2.2.1, eqv_2]
        refine ⟨?_, s02⟩
        rw [hS, Bool.true_and]
        congr 1

      · have hb : (x.a != 0) = true := by simpa using ha0
        simp only [hb, cT]
        refine ⟨?_, s02⟩
        rw [hS, dF ha0]
        by_cases h49 : x.op = 49
        · rw [h49] at hlay; exact absurd hlay (by decide)
        · rw [if_neg h49]
          simp [fldOk]
    | [f0], _ =>
      have len : ∀ H2, lenV Try.prog H2 69 lv = some (.int .i64 1) := fun H2 => pl.len H2
      have d1 : decide ((1 : Int) > 0) = true := rfl
      have d2 : decide ((1 : Int) > 1) = false := rfl
      have d3 : decide ((1 : Int) < 2) = true := rfl
      have d4 : ((1 : Int) == 0) = false := rfl
      obtain ⟨k0, i0, e1, e2, e3⟩ := pl.at (E := E) (j := 0) (f := f0) rfl
      have e1 : indexAtA Try.prog 69 lv (.int .i64 0) = some (.ptr (.new k0) i0) := e1
      simp only [len, d1, oS, wB, btt, btf, bft, bff, vT, vF, wU, gT, gF, pB, if_true, Bool.false_eq_true, if_false, true_and, and_true, un_not, bin_gtr, bin_lss, e1, e2, (In.loads (E := E) g2).2.1]
      refine (within_ok F2).use ?_
      rintro v3 H3 ⟨rfl, s3⟩ F3 n3
      have g3 := s3 _ _ _ g2
      have s03 := stays_trans s02 s3
      have A3 := A2.keep (Keeps.of s3)
      cases hm : f0.may x.a with
      | false =>
        simp only [Bool.not_false, oS, wB, btt, btf, bft, bff, vT, vF, wU, gT, gF, pB, if_true, Bool.false_eq_true, if_false, true_and, and_true, un_not, bin_gtr, bin_lss, cT]
        refine ⟨?_, s03⟩
        rw [hS]
        have : x.num 0 = x.a := rfl
        simp only [fldOk, this, hm, Bool.false_and]
      | true =>
        have hS : isS x = (if x.op = 49 then decide (x.arms.length ≤ 65535) && x.arms.all (armOk (IntKind.u8.wrap x.a)) && decide (0 ≤ x.b ∧ x.b ≤ 4294967295) else decide (x.arms.length = 0) && decide (x.b = 0)) := by
          have h0 : x.num 0 = x.a := rfl
          have h1 : x.num 1 = x.b := rfl
          rw [hS]
          by_cases h49 : x.op = 49
          · simp [fldOk, h0, hm, h49]
          · simp [fldOk, h0, h1, hm, h49]
        simp only [Bool.not_true, len, d4, oS, wB, btt, btf, bft, bff, vT, vF, wU, gT, gF, pB, if_true, Bool.false_eq_true, if_false, true_and, and_true, un_not, bin_gtr, bin_lss, eqv_3, cF]
        rw [(In.loads (E := E) g3).1, oS, eqv_5, oS, condW_bool]
        refine ⟨fun h49 => ?_, fun h49 => ?_⟩
        · have h49 : x.op = 49 := by simpa using h49
          rw [if_pos h49] at hS
          exact isLoop ho F3 g3 A3 s03 hS
        have h49 : ¬ x.op = 49 := by simpa using h49
        rw [if_neg h49] at hS
        rw [(In.loads (E := E) g3).2.2.2.1, oS, A3.len, oS, bin_gtr, oS]
        by_cases c1 : (x.arms.length : Int) > 0
        · simp only [dT c1, cT]
          refine ⟨?_, s03⟩
          rw [hS, dF (show ¬ x.arms.length = 0 by omega)]
          simp only [Bool.false_and]
        simp only [dF c1, cF]
        rw [dT (show x.arms.length = 0 by omega)] at hS
        simp only [len, d2, d3, oS, wB, btt, btf, bft, bff, vT, vF, wU, gT, gF, pB, if_true, Bool.false_eq_true, if_false, true_and, and_true, un_not, bin_gtr, bin_lss, (In.loads (E := E) g3).2.2.1, eqv_2]
        refine ⟨?_, s03⟩
        rw [hS, Bool.true_and]
        congr 1

    | [f0, f1], _ =>
      have len : ∀ H2, lenV Try.prog H2 69 lv = some (.int .i64 2) := fun H2 => pl.len H2
      have d1 : decide ((2 : Int) > 0) = true := rfl
      have d2 : decide ((2 : Int) > 1) = true := rfl
      have d3 : decide ((2 : Int) < 2) = false := rfl
      have d4 : ((2 : Int) == 0) = false := rfl
      obtain ⟨k0, i0, e1, e2, e3⟩ := pl.at (E := E) (j := 0) (f := f0) rfl
      have e1 : indexAtA Try.prog 69 lv (.int .i64 0) = some (.ptr (.new k0) i0) := e1
      simp only [len, d1, oS, wB, btt, btf, bft, bff, vT, vF, wU, gT, gF, pB, if_true, Bool.false_eq_true, if_false, true_and, and_true, un_not, bin_gtr, bin_lss, e1, e2, (In.loads (E := E) g2).2.1]
      refine (within_ok F2).use ?_
      rintro v3 H3 ⟨rfl, s3⟩ F3 n3
      have g3 := s3 _ _ _ g2
      have s03 := stays_trans s02 s3
      have A3 := A2.keep (Keeps.of s3)
      cases hm : f0.may x.a with
      | false =>
        simp only [Bool.not_false, oS, wB, btt, btf, bft, bff, vT, vF, wU, gT, gF, pB, if_true, Bool.false_eq_true, if_false, true_and, and_true, un_not, bin_gtr, bin_lss, cT]
        refine ⟨?_, s03⟩
        rw [hS]
        have : x.num 0 = x.a := rfl
        simp only [fldOk, this, hm, Bool.false_and]
      | true =>
        have hS : isS x = (if x.op = 49 then decide (x.arms.length ≤ 65535) && x.arms.all (armOk (IntKind.u8.wrap x.a)) && decide (0 ≤ x.b ∧ x.b ≤ 4294967295) else decide (x.arms.length = 0) && f1.may x.b) := by
          have h0 : x.num 0 = x.a := rfl
          have h1 : x.num 1 = x.b := rfl
          rw [hS]
          by_cases h49 : x.op = 49
          · rw [h49] at hlay; exact absurd hlay (by intro e; simp [lay_switch] at e)
          · simp [fldOk, h0, h1, hm, h49, Bool.and_comm]
        simp only [Bool.not_true, len, d4, oS, wB, btt, btf, bft, bff, vT, vF, wU, gT, gF, pB, if_true, Bool.false_eq_true, if_false, true_and, and_true, un_not, bin_gtr, bin_lss, eqv_3, cF]
        rw [(In.loads (E := E) g3).1, oS, eqv_5, oS, condW_bool]
        refine ⟨fun h49 => ?_, fun h49 => ?_⟩
        · have h49 : x.op = 49 := by simpa using h49
          rw [if_pos h49] at hS
          exact isLoop ho F3 g3 A3 s03 hS
        have h49 : ¬ x.op = 49 := by simpa using h49
        rw [if_neg h49] at hS
        rw [(In.loads (E := E) g3).2.2.2.1, oS, A3.len, oS, bin_gtr, oS]
        by_cases c1 : (x.arms.length : Int) > 0
        · simp only [dT c1, cT]
          refine ⟨?_, s03⟩
          rw [hS, dF (show ¬ x.arms.length = 0 by omega)]
          simp only [Bool.false_and]
        simp only [dF c1, cF]
        rw [dT (show x.arms.length = 0 by omega)] at hS
        obtain ⟨k1, i1, e1, e2, e3⟩ := (pl.keep (Keeps.of s3)).at (E := E) (j := 1) (f := f1) rfl
        have e1 : indexAtA Try.prog 69 lv (.int .i64 1) = some (.ptr (.new k1) i1) := e1
        simp only [len, d2, oS, wB, btt, btf, bft, bff, vT, vF, wU, gT, gF, pB, if_true, Bool.false_eq_true, if_false, true_and, and_true, un_not, bin_gtr, bin_lss, e1, e2, (In.loads (E := E) g3).2.2.1]
        refine (within_ok F3).use ?_
        rintro v8 H8 ⟨rfl, s8⟩ F8 n8
        cases hm1 : f1.may x.b with
        | true =>
          rw [hm1] at hS
          simp only [oS, wB, btt, btf, bft, bff, vT, vF, wU, gT, gF, pB, if_true, Bool.false_eq_true, if_false, true_and, and_true, un_not, bin_gtr, bin_lss]
          refine ⟨?_, stays_trans s03 s8⟩
          rw [hS]
          simp only [Bool.true_and, Bool.and_true, Bool.true_or]
        | false =>
          rw [hm1] at hS
          simp only [len, d3, oS, wB, btt, btf, bft, bff, vT, vF, wU, gT, gF, pB, if_true, Bool.false_eq_true, if_false, true_and, and_true, un_not, bin_gtr, bin_lss]
          refine ⟨?_, stays_trans s03 s8⟩
          rw [hS]
          rfl

    | _ :: _ :: _ :: _, h => exact absurd h (by simp)
end
end Go.Proofs.Ytcboaonbfgjmgaa.op

/-
  The document's Encode, Size.
-/
open Go.Proofs Go Go.Am
namespace Go.Proofs.Ytcboaonbfgjmgaa.op
open Go.Proofs.Ytcboaonbfgjmgaa.vb Go.Proofs.Ytcboaonbfgjmgaa.vr
set_option linter.unusedVariables false
set_option linter.unusedSimpArgs false
set_option maxRecDepth 100000

variable {E : Env} {w0 : World}

section
variable {H : AHeap} {b : AV} {bs : List Int} {k : Nat}

theorem putR_ok (F : Fine H) (h : Bs H b bs k) (hk : k < H.next) {n : Int} {s : Nat} (hs : s ≤ 8) (hl : bs.length + s < 2 ^ 40) :
    FnX Try.prog E w0 39 [b, .int .i64 n, .int .i64 (s : Int)] H fun v H' => ∃ k', Bs H' v (bs ++ fixS n s) k' ∧ (k' = k ∨ H.next ≤ k') ∧ k' < H'.next ∧ Keeps (fun j => j ≠ k) H H' := by
  refine V39_ok ?_
  unfold V39
  refine loop39_0 (I := fun m t0 t1 t2 t7 H' => t1 = .int .i64 n ∧ t2 = .int .i64 (s : Int) ∧ ∃ i k' : Nat, t7 = .int .i64 (i : Int) ∧ i + m = s ∧ Fine H' ∧ H.next ≤ H'.next ∧ Bs H' t0 (bs ++ fixS n i) k' ∧ (k' = k ∨ H.next ≤ k') ∧ k' < H'.next ∧ Keeps (fun j => j ≠ k) H H') ?_ (n := s)
    ⟨rfl, rfl, 0, k, rfl, by omega, F, Nat.le_refl _, by simpa [fixS] using h, .inl rfl, hk, Keeps.refl⟩
  rintro m t0 _ _ _ H2 ⟨rfl, rfl, i, k2, rfl, hi, F2, n2, B2, hk2, hk2', K2⟩
  intros
  unfold B39_0
  rw [bin_lss, oS, condW_bool]
  refine ⟨fun hlt => ?_, fun hge => ?_⟩
  · have hlt : i < s := by have := of_decide_eq_true hlt; omega
    have hb : IntKind.u8.wrap ((IntKind.u64.wrap n).fdiv (2 ^ (min (8 * (i : Int)).toNat 64))) = byteAt n i := by
      rw [u8_wrap, show (8 * (i : Int)).toNat = 8 * i by omega, Nat.min_eq_left (by omega), Int.fdiv_eq_ediv_of_nonneg _ (Int.le_of_lt (Int.pow_pos (by decide))), u64_wrap]
      exact byteAt_wrap n (by omega)
    rw [cv_2_114, oS, bin_mul, oS, wrap_i64 (by omega) (by omega), shr_114, if_neg (by omega), oS, cv_114_5, oS, hb, bs_27, o2S]
    obtain ⟨a1, a2, a3, F3⟩ := F2.newCells [AV.int .u8 (byteAt n i)]
    have hfm := first_of (E := E) (H := newCells H2 [AV.int .u8 (byteAt n i)]) (cap := 1) (ex := true) (ms := [byteAt n i]) a1
    obtain ⟨r, H4, e1, e2, e3, e4, F4⟩ := app_bytes (E := E) F3 (B2.keep fun all pre hg => a2 _ _ _ hg) hfm (by simp) (by rw [List.length_append, fixS_length]; simp only [List.length_cons, List.length_nil]; omega)
    have e1 : appendA Try.prog E (newCells H2 [AV.int .u8 (byteAt n i)]) 27 t0 27 (.slc (.new H2.next) 0 1 1 true 1) = some (r, H4) := e1
    rw [e1, o2S, bin_add, oS, wrap_i64 (by omega) (by omega)]
    refine ⟨m - 1, by omega, rfl, rfl, rfl, i + 1, (newCells H2 [AV.int .u8 (byteAt n i)]).next, by simp, by omega, F4, by omega, ?_, .inr ?_, ?_, ?_⟩
    · have : fixS n (i + 1) = fixS n i ++ [byteAt n i] := by simp [fixS, List.range_succ]
      rw [this, ← List.append_assoc]
      exact e2
    · rw [a3]; omega
    · rw [e4]; omega
    · have K24 : Keeps (fun j => j ≠ k2) H2 H4 := Keeps.trans (Keeps.of a2) e3 F2 (fun j _ hj => hj)
      exact Keeps.trans K2 K24 F (fun j hj h => show j ≠ k2 by have : j ≠ k := h; omega)
  · have hge : ¬ (i : Int) < s := of_decide_eq_false hge
    obtain rfl : i = s := by omega
    exact ⟨k2, B2, hk2, hk2', K2⟩

/-- What a switch has behind its width. -/
theorem j13_1 {x : In} (ho : x.Ok) {k1 kb m : Nat} {H1 : AHeap} (F1 : Fine H1) (hg : H1.get k1 = some (.cells x.cells true [])) (hA : ArmsAt E (fun j => j < m) H1 x.av x.arms) (hk1 : k1 < m) (hm : m ≤ kb) (B1 : Bs H1 b bs kb) (h0 : bs ≠ []) (hl : bs.length < 2 ^ 20) (hlen : x.op = 49 → x.arms.length ≤ 65535)
    {Q : AV → AHeap → Prop} (hQ : ∀ r k' H', Bs H' r (bs ++ if x.op = 49 then fixS x.arms.length 2 ++ armsB x.arms ++ fixS x.b 4 else []) k' → m ≤ k' → Keeps (fun j => j < m) H1 H' → Q (.tup [r, .int .i64 0]) H')
    {x0 x2 x3 x4 x5 x7 x8 x9 x10 x11 x12 x13 x14 x15 x16 x17 x18 x19 x20 x21 x22 x23 x24 x25 x26 x27 x28 x29 x30 x31 x32 x33 x34 x35 x36 x37 x38 x39 x40 x41 x45 x46 x47 x48 x49 x50 x51 x52 x53 x54 x55 x56 x57 x58 x59 x60 x61 x62 x63 x64 x65 x66 x67 x68 x69 x70 x71 x72 x73 x74 x75 x76 x77 : AV} :
    J13_1 E w0 Q x0 (.ptr (.new k1) 0) x2 x3 x4 x5 b x7 x8 x9 x10 x11 x12 x13 x14 x15 x16 x17 x18 x19 x20 x21 x22 x23 x24 x25 x26 x27 x28 x29 x30 x31 x32 x33 x34 x35 x36 x37 x38 x39 x40 x41 x45 x46 x47 x48 x49 x50 x51 x52 x53 x54 x55 x56 x57 x58 x59 x60 x61 x62 x63 x64 x65 x66 x67 x68 x69 x70 x71 x72 x73 x74 x75 x76 x77 H1 := by
  unfold J13_1
  have hkl := B1.lt F1 h0
  obtain ⟨l0, l1, l2, l3, l4⟩ := In.loads (E := E) hg
  simp only [fa_24_0, fa_24_3, Nat.add_zero, Nat.zero_add, oS, l0, eqv_5]
  rw [condW_bool]
  refine ⟨fun h49 => ?_, fun h49 => ?_⟩
  · have h49 : x.op = 49 := by simpa using h49
    have hn := hlen h49
    simp only [if_pos h49] at hQ
    simp only [l3, oS, hA.len]
    refine (putR_ok F1 B1 hkl (s := 2) (by omega) (by omega)).use ?_
    rintro v2 H2 ⟨k2, B2, hk2, hk2', K2⟩ F2 n2
    have K2' : Keeps (fun j => j < m) H1 H2 := K2.less fun j hj => show j ≠ kb by have : j < m := hj; omega
    refine loop13_0 (I := fun n t1 t6 t7 H' => t1 = .ptr (.new k1) 0 ∧ ∃ (i k' : Nat) (done : List Int), t7 = .int .i64 (i : Int) ∧ i + n = x.arms.length ∧ Fine H' ∧ H2.next ≤ H'.next ∧ Bs H' t6 (bs ++ fixS x.arms.length 2 ++ done) k' ∧ m ≤ k' ∧ k' < H'.next ∧ done.length = 12 * i ∧ done ++ armsB (x.arms.drop i) = armsB x.arms ∧ Keeps (fun j => j < m) H1 H') ?_ (n := x.arms.length)
      ⟨rfl, 0, k2, [], rfl, by omega, F2, Nat.le_refl _, by simpa using B2, by omega, hk2', rfl, rfl, K2'⟩
    rintro n _ t6 _ H3 ⟨rfl, i, k3, done, rfl, hi, F3, n3, B3, hk3, hk3', hd, hdone, K3⟩
    intros
    unfold B13_0
    have g3 := K3 _ _ _ hk1 hg
    have A3 := hA.keep K3
    obtain ⟨m0, m1, m2, m3, m4⟩ := In.loads (E := E) g3
    simp only [fa_24_3, fa_24_2, Nat.zero_add, oS, m3, hA.len, bin_lss]
    rw [condW_bool]
    have hbl : (bs ++ fixS x.arms.length 2 ++ done).length < 2 ^ 32 := by rw [List.length_append, List.length_append, fixS_length]; omega
    refine ⟨fun hlt => ?_, fun hge => ?_⟩
    · have hlt : i < x.arms.length := by have := of_decide_eq_true hlt; omega
      obtain ⟨y, hy⟩ : ∃ y, y = x.arms[i] := ⟨_, rfl⟩
      have hyj : x.arms[i]? = some y := by rw [hy]; exact List.getElem?_eq_getElem hlt
      obtain ⟨o, q, e1, e2, e3, e4⟩ := A3.at hyj
      have e3 : loadV Try.prog E H3 2 (.ptr o q) = some (.int .i64 y.1) := by rw [ld_2, e3]
      simp only [e1, oS, fa_49_0, Nat.add_zero, e3]
      refine (putR_ok F3 B3 hk3' (s := 8) (by omega) (by omega)).use ?_
      rintro v4 H4 ⟨k4, B4, hk4, hk4', K4⟩ F4 n4
      have K4' : Keeps (fun j => j < m) H1 H4 := Keeps.trans K3 K4 F1 fun j _ hj => show j ≠ k3 by have : j < m := hj; omega
      have g4 := K4' _ _ _ hk1 hg
      obtain ⟨p0, p1, p2, p3, p4⟩ := In.loads (E := E) g4
      obtain ⟨o', q', e1', _, _, e4'⟩ := (hA.keep K4').at hyj
      have e4' : loadV Try.prog E H4 3 (.ptr o' (q' + 1)) = some (.int .i64 y.2) := by rw [ld_3, e4']
      simp only [p3, oS, e1', fa_49_1, e4']
      refine (putR_ok F4 B4 hk4' (s := 4) (by omega) (by rw [List.length_append, fixS_length]; omega)).use ?_
      rintro v5 H5 ⟨k5, B5, hk5, hk5', K5⟩ F5 n5
      have K5' : Keeps (fun j => j < m) H1 H5 := Keeps.trans K4' K5 F1 fun j _ hj => show j ≠ k4 by have : j < m := hj; omega
      rw [bin_add, oS, wrap_i64 (by omega) (by omega)]
      refine ⟨n - 1, by omega, rfl, rfl, i + 1, k5, done ++ (fixS y.1 8 ++ fixS y.2 4), by simp, by omega, F5, by omega, ?_, by omega, hk5', by simp only [List.length_append, fixS_length]; omega, ?_, K5'⟩
      · have : bs ++ fixS x.arms.length 2 ++ (done ++ (fixS y.1 8 ++ fixS y.2 4)) = bs ++ fixS x.arms.length 2 ++ done ++ fixS y.1 8 ++ fixS y.2 4 := by simp only [List.append_assoc]
        rw [this]; exact B5
      · rw [← hdone, List.drop_eq_getElem_cons hlt, ← hy]
        simp only [armsB, List.flatMap_cons, armB, List.append_assoc]
    · have hge : ¬ (i : Int) < x.arms.length := of_decide_eq_false hge
      rw [List.drop_eq_nil_of_le (by omega)] at hdone
      simp only [armsB, List.flatMap_nil, List.append_nil] at hdone
      simp only [m2, oS]
      refine (putR_ok F3 B3 hk3' (s := 4) (by omega) (by omega)).use ?_
      rintro v4 H4 ⟨k4, B4, hk4, hk4', K4⟩ F4 n4
      have K4' : Keeps (fun j => j < m) H1 H4 := Keeps.trans K3 K4 F1 fun j _ hj => show j ≠ k3 by have : j < m := hj; omega
      refine P13_17_ok ?_
      unfold P13_17
      have hB : bs ++ (fixS x.arms.length 2 ++ armsB x.arms ++ fixS x.b 4) = bs ++ fixS x.arms.length 2 ++ done ++ fixS x.b 4 := by rw [hdone]; simp only [armsB, List.append_assoc]
      rw [hB] at hQ
      exact hQ _ k4 _ B4 (by omega) K4'
  · have h49 : ¬ x.op = 49 := by simpa using h49
    simp only [if_neg h49, List.append_nil] at hQ
    refine P13_17_ok ?_
    unfold P13_17
    exact hQ _ kb _ B1 hm Keeps.refl

theorem isS_some {x : In} (h : isS x = true) : ∃ l, lay x.op = some l ∧ (x.op = 49 → x.arms.length ≤ 65535) := by
  unfold isS at h
  cases hl : lay x.op with
  | none => rw [hl] at h; simp at h
  | some l =>
    refine ⟨l, rfl, fun h49 => ?_⟩
    rw [if_pos h49] at h
    simp only [Bool.and_eq_true, decide_eq_true_eq] at h
    exact h.2.1.1

theorem encodeR_ok (F : Fine H) {x : In} (ho : x.Ok) (ha : ArmsAt E All H x.av x.arms) : FnX Try.prog E w0 13 [.agg x.cells] H fun v H' =>
    Stays H H' ∧ ∃ r k', v = .tup [r, .int .i64 (if isS x then 0 else 120)] ∧ Bs H' r (if isS x then encB x else []) k' ∧ H.next ≤ k' := by
  refine V13_ok ?_
  unfold V13
  have hcl : AV.cells (.agg x.cells) = x.cells := rfl
  obtain ⟨a1, a2, a3, F1⟩ := F.newCells x.cells
  rw [wW, hcl]
  generalize hH1 : newCells H x.cells = H1 at *
  rw [(In.loads (E := E) a1).2.2.2.2, oS]
  refine (is_ok F1 ho (ha.keep (Keeps.of a2))).use ?_
  rintro v2 H2 ⟨rfl, s2⟩ F2 n2
  rw [un_not, oS, condW_bool]
  refine ⟨fun h => ?_, fun h => ?_⟩
  · have h : isS x = false := by simpa using h
    simp only [h, Bool.false_eq_true, if_false]
    exact ⟨stays_trans a2 s2, _, H.next, rfl, .inl ⟨rfl, rfl⟩, Nat.le_refl _⟩
  have h : isS x = true := by simpa using h
  obtain ⟨l, hl, hlen⟩ := isS_some h
  have hsz : ∀ f ∈ l, 1 ≤ f.size ∧ f.size ≤ 8 := by have := lay_size (op := x.op); rw [hl] at this; exact this
  have hll : l.length ≤ 2 := by have := lay_length (op := x.op); rw [hl] at this; exact this
  have g2 := s2 _ _ _ a1
  have s02 := stays_trans a2 s2
  simp only [h, if_true, fa_24_0, fa_24_1, oS, Nat.add_zero, (In.loads (E := E) g2).1]
  refine (parts_ok F2).use ?_
  rintro v3 H3 ⟨lv, rfl, pl, s3⟩ F3 n3
  rw [hl] at pl
  simp only [Option.getD_some] at pl
  have g3 := s3 _ _ _ g2
  have s03 := stays_trans s02 s3
  simp only [ex0, ex1, oS, (In.loads (E := E) g3).1, bs_27, o2S]
  obtain ⟨b1, b2, b3, F4⟩ := F3.newCells [AV.int .u8 x.op]
  generalize hH4 : newCells H3 [AV.int .u8 x.op] = H4 at *
  have s04 := stays_trans s03 b2
  have g4 := b2 _ _ _ g3
  have B4 : Bs H4 (.slc (.new H3.next) 0 1 1 true 1) [x.op] H3.next := .inr ⟨1, true, _, [], rfl, b1, rfl, Nat.le_refl _⟩
  have pl4 : PartsAt (fun j => j < H3.next) H4 lv l := (pl.less F3 fun j hj _ => hj).keep (Keeps.of b2)
  have A4 : ArmsAt E (fun j => j < H3.next) H4 x.av x.arms := (ha.less F fun j hj _ => show j < H3.next by omega).keep (Keeps.of s04)
  have h1m : H.next < H3.next := by omega
  have hk4 : H3.next < H4.next := by omega
  have fin : ∀ {H5 : AHeap} {r : AV} {bs : List Int} {k' : Nat}, Fine H5 → Keeps (fun j => j < H3.next) H4 H5 → Bs H5 r bs k' → H3.next ≤ k' → bs ≠ [] → bs.length < 2 ^ 20 → bs = x.op :: fldB x 0 l → ∀ (x0 x2 x3 x4 x5 x7 x8 x9 x10 x11 x12 x13 x14 x15 x16 x17 x18 x19 x20 x21 x22 x23 x24 x25 x26 x27 x28 x29 x30 x31 x32 x33 x34 x35 x36 x37 x38 x39 x40 x41 x45 x46 x47 x48 x49 x50 x51 x52 x53 x54 x55 x56 x57 x58 x59 x60 x61 x62 x63 x64 x65 x66 x67 x68 x69 x70 x71 x72 x73 x74 x75 x76 x77 : AV), J13_1 E w0 (fun v H' => Stays H H' ∧ ∃ r k', v = .tup [r, .int .i64 0] ∧ Bs H' r (encB x) k' ∧ H.next ≤ k') x0 (.ptr (.new H.next) 0) x2 x3 x4 x5 r x7 x8 x9 x10 x11 x12 x13 x14 x15 x16 x17 x18 x19 x20 x21 x22 x23 x24 x25 x26 x27 x28 x29 x30 x31 x32 x33 x34 x35 x36 x37 x38 x39 x40 x41 x45 x46 x47 x48 x49 x50 x51 x52 x53 x54 x55 x56 x57 x58 x59 x60 x61 x62 x63 x64 x65 x66 x67 x68 x69 x70 x71 x72 x73 x74 x75 x76 x77 H5 := by
    intro H5 r bs k' F5 K5 B5 hk5 hb0 hbl hbs
    intros
    have hE : encB x = bs ++ if x.op = 49 then fixS x.arms.length 2 ++ armsB x.arms ++ fixS x.b 4 else [] := by unfold encB; rw [hl, hbs]; rfl
    rw [hE]
    refine j13_1 ho F5 (K5 _ _ _ h1m g4) (A4.keep K5) h1m hk5 B5 hb0 hbl hlen fun r k' H' B hk K => ⟨?_, r, k', rfl, B, by omega⟩
    intro j al pr hj
    have := F.lt hj
    exact K _ _ _ (show j < H3.next by omega) (K5 _ _ _ (show j < H3.next by omega) (s04 _ _ _ hj))
  have cells : (In.loads (E := E) g4).2.1 = (In.loads (E := E) g4).2.1 := rfl
  rw [pl4.len, oS, bin_gtr, oS]
  match l, hll with
  | [], _ =>
    simp only [List.length_nil, show decide (((0 : Nat) : Int) > 0) = false from rfl, cF]
    unfold J13_0
    rw [pl4.len, oS, bin_gtr, oS]
    simp only [List.length_nil, show decide (((0 : Nat) : Int) > 1) = false from rfl, cF]
    exact fin F4 Keeps.refl B4 (Nat.le_refl _) (by simp) (by simp) rfl _ _ _ _ _ _ _ _ _ _ _ _ _ _ _ _ _ _ _ _ _ _ _ _ _ _ _ _ _ _ _ _ _ _ _ _ _ _ _ _ _ _ _ _ _ _ _ _ _ _ _ _ _ _ _ _ _ _ _ _ _ _ _ _ _ _ _ _ _ _ _ _ _
  | [f0], _ =>
    have hf0 := hsz f0 (by simp)
    obtain ⟨k0, i0, e1, _, e3⟩ := pl4.at (E := E) (j := 0) (f := f0) rfl
    have e1 : indexAtA Try.prog 69 lv (.int .i64 0) = some (.ptr (.new k0) i0) := e1
    simp only [List.length_cons, List.length_nil, show decide (((0 + 1 : Nat) : Int) > 0) = true from rfl, cT, (In.loads (E := E) g4).2.1, oS, e1, fa_74_0, Nat.add_zero, ld_3, e3, true_and, and_true]
    refine (putR_ok F4 B4 hk4 hf0.2 (by simp only [List.length_cons, List.length_nil]; omega)).use ?_
    rintro v5 H5 ⟨k5, B5, hk5, hk5', K5⟩ F5 n5
    have K5' : Keeps (fun j => j < H3.next) H4 H5 := K5.less fun j (hj : j < H3.next) => show j ≠ H3.next by omega
    unfold J13_0
    rw [pl4.len]
    simp only [oS, bin_gtr, List.length_cons, List.length_nil, show decide (((0 + 1 : Nat) : Int) > 1) = false from rfl, cF, true_and, and_true]
    exact fin F5 K5' B5 (by omega) (by simp) (by simp only [List.length_append, List.length_cons, List.length_nil, fixS_length]; omega) (by simp [fldB, In.num]) _ _ _ _ _ _ _ _ _ _ _ _ _ _ _ _ _ _ _ _ _ _ _ _ _ _ _ _ _ _ _ _ _ _ _ _ _ _ _ _ _ _ _ _ _ _ _ _ _ _ _ _ _ _ _ _ _ _ _ _ _ _ _ _ _ _ _ _ _ _ _ _ _
  | [f0, f1], _ =>
    have hf0 := hsz f0 (by simp)
    have hf1 := hsz f1 (by simp)
    obtain ⟨k0, i0, e1, _, e3⟩ := pl4.at (E := E) (j := 0) (f := f0) rfl
    have e1 : indexAtA Try.prog 69 lv (.int .i64 0) = some (.ptr (.new k0) i0) := e1
    simp only [List.length_cons, List.length_nil, show decide (((0 + 1 + 1 : Nat) : Int) > 0) = true from rfl, cT, (In.loads (E := E) g4).2.1, oS, e1, fa_74_0, Nat.add_zero, ld_3, e3, true_and, and_true]
    refine (putR_ok F4 B4 hk4 hf0.2 (by simp only [List.length_cons, List.length_nil]; omega)).use ?_
    rintro v5 H5 ⟨k5, B5, hk5, hk5', K5⟩ F5 n5
    have K5' : Keeps (fun j => j < H3.next) H4 H5 := K5.less fun j (hj : j < H3.next) => show j ≠ H3.next by omega
    obtain ⟨k1, i1, c1, _, c3⟩ := (pl4.keep K5').at (E := E) (j := 1) (f := f1) rfl
    have c1 : indexAtA Try.prog 69 lv (.int .i64 1) = some (.ptr (.new k1) i1) := c1
    have g5 := K5' _ _ _ h1m g4
    unfold J13_0
    rw [pl4.len]
    simp only [oS, bin_gtr, List.length_cons, List.length_nil, show decide (((0 + 1 + 1 : Nat) : Int) > 1) = true from rfl, cT, fa_24_2, Nat.zero_add, (In.loads (E := E) g5).2.2.1, c1, fa_74_0, Nat.add_zero, ld_3, c3, true_and, and_true]
    refine (putR_ok F5 B5 hk5' hf1.2 (by simp only [List.length_append, List.length_cons, List.length_nil, fixS_length]; omega)).use ?_
    rintro v6 H6 ⟨k6, B6, hk6, hk6', K6⟩ F6 n6
    have K6' : Keeps (fun j => j < H3.next) H4 H6 := Keeps.trans K5' K6 F4 fun j _ (hj : j < H3.next) => show j ≠ k5 by omega
    exact fin F6 K6' B6 (by omega) (by simp) (by simp only [List.length_append, List.length_cons, List.length_nil, fixS_length]; omega) (by simp [fldB, In.num]) _ _ _ _ _ _ _ _ _ _ _ _ _ _ _ _ _ _ _ _ _ _ _ _ _ _ _ _ _ _ _ _ _ _ _ _ _ _ _ _ _ _ _ _ _ _ _ _ _ _ _ _ _ _ _ _ _ _ _ _ _ _ _ _ _ _ _ _ _ _ _ _ _
  | _ :: _ :: _ :: _, h => exact absurd h (by simp)

theorem fldB_cons (x : In) (i : Nat) (f : Fd) (l : List Fd) : (fldB x i (f :: l)).length = f.size + (fldB x (i + 1) l).length := by
  simp only [fldB, List.length_append, fixS_length]

theorem sizeR_ok (F : Fine H) {x : In} (ho : x.Ok) (ha : ArmsAt E All H x.av x.arms) : FnX Try.prog E w0 16 [.agg x.cells] H fun v H' =>
    Stays H H' ∧ v = .int .i64 (if isS x then ((encB x).length : Int) else 0) := by
  refine V16_ok ?_
  unfold V16
  have hcl : AV.cells (.agg x.cells) = x.cells := rfl
  obtain ⟨a1, a2, a3, F1⟩ := F.newCells x.cells
  rw [wW, hcl]
  generalize hH1 : newCells H x.cells = H1 at *
  rw [(In.loads (E := E) a1).2.2.2.2, oS]
  refine (is_ok F1 ho (ha.keep (Keeps.of a2))).use ?_
  rintro v2 H2 ⟨rfl, s2⟩ F2 n2
  rw [un_not, oS, condW_bool]
  refine ⟨fun h => ?_, fun h => ?_⟩
  · have h : isS x = false := by simpa using h
    simp only [h, Bool.false_eq_true, if_false]
    exact ⟨stays_trans a2 s2, by trivial⟩
  have h : isS x = true := by simpa using h
  obtain ⟨l, hl, hlen⟩ := isS_some h
  have hsz : ∀ f ∈ l, 1 ≤ f.size ∧ f.size ≤ 8 := by have := lay_size (op := x.op); rw [hl] at this; exact this
  have hll : l.length ≤ 2 := by have := lay_length (op := x.op); rw [hl] at this; exact this
  have g2 := s2 _ _ _ a1
  have s02 := stays_trans a2 s2
  simp only [h, if_true, fa_24_0, fa_24_1, oS, Nat.add_zero, (In.loads (E := E) g2).1]
  refine (parts_ok F2).use ?_
  rintro v3 H3 ⟨lv, rfl, pl, s3⟩ F3 n3
  rw [hl] at pl
  simp only [Option.getD_some] at pl
  have g3 := s3 _ _ _ g2
  have s03 := stays_trans s02 s3
  simp only [ex0, ex1, oS]
  have hfl := fldB_length x 0 l fun f hf => (hsz f hf).2
  refine loop16_0 (I := fun n t1 t3 t5 t6 H' => t1 = .ptr (.new H.next) 0 ∧ lv = t3 ∧ H' = H3 ∧ ∃ (i c : Nat), t6 = .int .i64 (i : Int) ∧ i + n = l.length ∧ t5 = .int .i64 (c : Int) ∧ c + (fldB x i (l.drop i)).length = 1 + (fldB x 0 l).length) ?_ (n := l.length)
    ⟨rfl, rfl, rfl, 0, 1, rfl, by omega, rfl, rfl⟩
  rintro n _ _ _ _ H4 ⟨rfl, rfl, rfl, i, c, rfl, hi, rfl, hc⟩
  intros
  unfold B16_0
  rw [pl.len, oS, bin_lss, oS, condW_bool]
  refine ⟨fun hlt => ?_, fun hge => ?_⟩
  · have hlt : i < l.length := by have := of_decide_eq_true hlt; omega
    obtain ⟨f, hf⟩ : ∃ f, f = l[i] := ⟨_, rfl⟩
    obtain ⟨k0, i0, e1, _, e3⟩ := pl.at (E := E) (j := i) (f := f) (by rw [hf]; exact List.getElem?_eq_getElem hlt)
    have hf8 := (hsz f (by rw [hf]; exact List.getElem_mem _)).2
    rw [List.drop_eq_getElem_cons hlt, ← hf, fldB_cons] at hc
    rw [e1, oS, fa_74_0, oS, Nat.add_zero, ld_3, e3, oS, bin_add, oS, wrap_i64 (by omega) (by omega), bin_add, oS, wrap_i64 (by omega) (by omega)]
    exact ⟨n - 1, by omega, rfl, rfl, rfl, rfl, i + 1, c + f.size, by simp, by omega, by simp, by omega⟩
  · have hge : ¬ (i : Int) < l.length := of_decide_eq_false hge
    rw [List.drop_eq_nil_of_le (by omega)] at hc
    simp only [fldB, List.length_nil, Nat.add_zero] at hc
    rw [fa_24_0, oS, Nat.add_zero, (In.loads (E := E) g3).1, oS, eqv_5, oS, condW_bool]
    have hE : (encB x).length = c + (if x.op = 49 then fixS x.arms.length 2 ++ armsB x.arms ++ fixS x.b 4 else []).length := by
      unfold encB; rw [hl, List.length_append, List.length_cons, Option.getD_some, hc, Nat.add_comm 1]
    refine ⟨fun h49 => ?_, fun h49 => ?_⟩
    · have h49 : x.op = 49 := by simpa using h49
      have hn := hlen h49
      rw [if_pos h49, List.length_append, List.length_append, fixS_length, fixS_length, armsB_length] at hE
      rw [bin_add, oS, wrap_i64 (by omega) (by omega), fa_24_3, oS, Nat.zero_add, (In.loads (E := E) g3).2.2.2.1, oS, ha.len, oS, bin_mul, oS, wrap_i64 (by omega) (by omega), bin_add, oS, wrap_i64 (by omega) (by omega), bin_add, oS, wrap_i64 (by omega) (by omega), hE]
      refine ⟨s03, ?_⟩
      congr 1
      omega
    · have h49 : ¬ x.op = 49 := by simpa using h49
      rw [if_neg h49, List.length_nil] at hE
      rw [hE]
      exact ⟨s03, rfl⟩
end
end Go.Proofs.Ytcboaonbfgjmgaa.op

/-
  Instructions that are lent, kept, the same.
-/
open Go.Proofs Go Go.Am
namespace Go.Proofs.Ytcboaonbfgjmgaa.op
open Go.Proofs.Ytcboaonbfgjmgaa.vb Go.Proofs.Ytcboaonbfgjmgaa.vr Go.Proofs.Ytcboaonbfgjmgaa.vw
set_option linter.unusedVariables false
set_option linter.unusedSimpArgs false
set_option maxRecDepth 100000

variable {E : Env} {w0 : World}

def two (p q : Bool) : Option Bool := match some p with
  | some true => (match some q with | some true => some true | r => r)
  | r => r
theorem two_is (p q : Bool) : two p q = some (p && q) := by cases p <;> cases q <;> rfl
theorem nev_49' (x y : Operand) (a b c d : Int) : binV Try.prog .neq 49 x y (.agg [.int .i64 a, .int .i64 b]) (.agg [.int .i64 c, .int .i64 d]) = (two (a == c) (b == d)).map fun r => .bool !r := by kernel_rfl
theorem nev_49 (x y : Operand) (a b c d : Int) : binV Try.prog .neq 49 x y (.agg [.int .i64 a, .int .i64 b]) (.agg [.int .i64 c, .int .i64 d]) = some (.bool (!(a == c && b == d))) := by
  rw [nev_49', two_is]; rfl
theorem cut_22 (H : AHeap) (i : Nat) (len cap : Nat) (ex : Bool) (n : Nat) (h : n ≤ cap) : sliceA Try.prog H 22 (.slc (.new i) 0 len cap ex 2) none (some (.int .i64 (n : Int))) none = some (.slc (.new i) 0 n cap ex 2) := by
  have e : sliceA Try.prog H 22 (.slc (.new i) 0 len cap ex 2) none (some (.int .i64 (n : Int))) none = (boundsA len cap none (some (.int .i64 (n : Int))) none).bind fun r => some (.slc (.new i) (0 + r.1 * 2) (r.2.1 - r.1) (r.2.2 - r.1) (ex || false) 2) := by kernel_rfl
  rw [e]
  simp only [boundsA, topA, highA, lowA, boundA, Option.bind_some]
  rw [if_pos ⟨by omega, by omega⟩]
  simp
theorem bld_24 (op a b : Int) : buildA Try.prog 24 [(0, .int .u8 op), (1, .int .i64 a), (2, .int .i64 b)] = some (.agg [.int .u8 op, .int .i64 a, .int .i64 b, .nilSlc]) := by kernel_rfl
theorem bld_49 (a : Int) : buildA Try.prog 49 [(0, .int .i64 a)] = some (.agg [.int .i64 a, .int .i64 0]) := by kernel_rfl
theorem bs_22 (H : AHeap) (a b : Int) : buildSliceA Try.prog H 22 1 [(0, .agg [.int .i64 a, .int .i64 b])] = some (.slc (.new H.next) 0 1 1 true 2, newCells H [.int .i64 a, .int .i64 b]) := by kernel_rfl
theorem sz_24 {a b c d : AV} : sizeA Try.prog 24 = some (AV.cells (.agg [a, b, c, d])).length := by kernel_rfl
theorem sz_22 : sizeA Try.prog 22 = some 1 := by kernel_rfl

def armsC (arms : List (Int × Int)) : List AV := arms.flatMap armc
theorem armsC_length : ∀ l : List (Int × Int), (armsC l).length = l.length * 2
  | [] => rfl
  | y :: l => by
    have := armsC_length l
    simp only [armsC, List.flatMap_cons, List.length_append, armc, List.length_cons, List.length_nil] at this ⊢
    omega
theorem armsC_scalar (l : List (Int × Int)) : (armsC l).all Am.scalar = true := by
  rw [List.all_eq_true]
  intro x hx
  obtain ⟨y, _, hy⟩ := List.mem_flatMap.1 hx
  simp only [armc, List.mem_cons, List.not_mem_nil, or_false] at hy
  rcases hy with rfl | rfl <;> rfl
theorem armsC_take : ∀ (arms : List (Int × Int)) (l : List AV), (∀ j x, arms[j]? = some x → (l.drop (j * 2)).take 2 = armc x) → l.take (arms.length * 2) = armsC arms
  | [], l, h => by simp [armsC]
  | y :: arms, l, h => by
    have h0 := h 0 y rfl
    have ih := armsC_take arms (l.drop 2) fun j x hj => by
      have := h (j + 1) x (by simpa using hj)
      rw [List.drop_drop]
      rw [show 2 + j * 2 = (j + 1) * 2 by omega]
      exact this
    simp only [Nat.zero_mul, List.drop_zero] at h0
    rw [List.length_cons, show (arms.length + 1) * 2 = 2 + arms.length * 2 by omega, List.take_add, h0, ih]
    rfl
theorem armsC_at {arms : List (Int × Int)} {tl : List AV} {j : Nat} {x : Int × Int} (h : arms[j]? = some x) : ((armsC arms ++ tl).drop (j * 2)).take 2 = armc x := by
  induction arms generalizing j with
  | nil => simp at h
  | cons y arms ih =>
    cases j with
    | zero => simp at h; subst h; rfl
    | succ j =>
      have h' : arms[j]? = some x := by simpa using h
      have := ih h'
      rw [← this, show (j + 1) * 2 = 2 + j * 2 by omega, ← List.drop_drop]
      rfl

section
variable {H H' : AHeap} {X Y : Nat → Prop} {av : AV} {arms : List (Int × Int)}
theorem ArmsAt.first (h : ArmsAt E X H av arms) : lenOfA av = some arms.length ∧ firstA E H 2 arms.length av = some (armsC arms) := by
  rcases h with ⟨rfl, rfl⟩ | ⟨o, i, cap, ex, sz, rfl, ⟨b, cs, rfl, hE, hc⟩ | ⟨k, all, pre, rfl, hx, hg, hc⟩⟩
  · exact ⟨rfl, rfl⟩
  all_goals refine ⟨rfl, ?_⟩
  all_goals unfold firstA
  all_goals simp only [rangeOr]
  all_goals split
  · rename_i hz
    have : arms = [] := List.length_eq_zero_iff.1 (by omega)
    rw [this]; rfl
  · rename_i hz
    have hne : arms ≠ [] := fun e => hz (by rw [e]; rfl)
    have hE := hE.resolve_left hne
    have ht := armsC_take arms (cs.drop i) fun j x hj => by rw [List.drop_drop]; exact hc j x hj
    have hl := congrArg List.length ht
    rw [List.length_take, List.length_drop, armsC_length] at hl
    simp only [loadRange, cellsOf, hE]
    rw [if_pos (by omega), ht]
  · rename_i hz
    have : arms = [] := List.length_eq_zero_iff.1 (by omega)
    rw [this]; rfl
  · rename_i hz
    have ht := armsC_take arms (all.drop i) fun j x hj => by rw [List.drop_drop]; exact hc j x hj
    have hl := congrArg List.length ht
    rw [List.length_take, List.length_drop, armsC_length] at hl
    rw [loadRange_new E hg, if_pos (by omega), ht]

/-- Arms of one's own, with a mark behind. -/
def Lent (X : Nat → Prop) (H : AHeap) (av : AV) (arms : List (Int × Int)) : Prop :=
  ∃ k cap ex pre, av = .slc (.new k) 0 arms.length cap ex 2 ∧ arms.length < cap ∧ H.get k = some (.cells (armsC arms ++ [.int .i64 77, .int .i64 0]) true pre) ∧ X k
theorem Lent.toArms (h : Lent X H av arms) : ArmsAt E X H av arms := by
  obtain ⟨k, cap, ex, pre, e, hc, hg, hx⟩ := h
  refine .inr ⟨.new k, 0, cap, ex, 2, e, .inr ⟨k, _, pre, rfl, hx, hg, fun j x hj => ?_⟩⟩
  rw [Nat.zero_add]
  exact armsC_at hj
theorem Lent.keep (h : Lent X H av arms) (hk : Keeps X H H') : Lent X H' av arms := by
  obtain ⟨k, cap, ex, pre, e, hc, hg, hx⟩ := h
  exact ⟨k, cap, ex, pre, e, hc, hk _ _ _ hx hg, hx⟩
theorem Lent.less (h : Lent X H av arms) (F : Fine H) (hxy : ∀ k, k < H.next → X k → Y k) : Lent Y H av arms := by
  obtain ⟨k, cap, ex, pre, e, hc, hg, hx⟩ := h
  exact ⟨k, cap, ex, pre, e, hc, hg, hxy _ (F.lt hg) hx⟩

/-- An append of arms to none. -/
theorem app_arms (F : Fine H) (h : ArmsAt E X H av arms) (hs : arms.length < 2 ^ 30) : ∃ r H1, appendA Try.prog E H 22 .nilSlc 22 av = some (r, H1) ∧ Fine H1 ∧ Stays H H1 ∧ H.next ≤ H1.next ∧
    ((r = .nilSlc ∧ arms = []) ∨ ∃ pre, r = .slc (.new H.next) 0 arms.length arms.length false 2 ∧ H1.get H.next = some (.cells (armsC arms) true pre)) := by
  have hf := h.first
  rw [app_22_22, hf.1]
  simp only [Option.bind_some, hf.2]
  unfold growA
  rw [if_pos (armsC_length arms)]
  simp only
  by_cases h0 : arms.length = 0
  · rw [if_pos h0]
    exact ⟨_, _, rfl, F, fun _ _ _ h => h, Nat.le_refl _, .inl ⟨rfl, List.length_eq_zero_iff.1 h0⟩⟩
  · rw [if_neg h0, if_pos ⟨by decide, by omega⟩]
    obtain ⟨a, b, c, d⟩ := F.newCells (armsC arms)
    exact ⟨_, _, rfl, d, b, by omega, .inr ⟨[], rfl, a⟩⟩

/-- A mark behind. -/
theorem app_mark (F : Fine H) {r : AV} {k : Nat} (hr : (r = .nilSlc ∧ arms = []) ∨ ∃ pre, r = .slc (.new k) 0 arms.length arms.length false 2 ∧ H.get k = some (.cells (armsC arms) true pre)) (hk : k < H.next) {j : Nat} {pre : List Nat} (hj : H.get j = some (.cells [.int .i64 77, .int .i64 0] true pre)) (hs : arms.length < 2 ^ 30) :
    ∃ H1, appendA Try.prog E H 22 r 22 (.slc (.new j) 0 1 1 true 2) = some (.slc (.new H.next) 0 (arms.length + 1) (arms.length + 1) false 2, H1) ∧ Fine H1 ∧ But k H H1 ∧ H1.next = H.next + 1 ∧ ∃ q, H1.get H.next = some (.cells (armsC arms ++ [.int .i64 77, .int .i64 0]) true q) := by
  have hf : lenOfA (.slc (.new j) 0 1 1 true 2) = some 1 ∧ firstA E H 2 1 (.slc (.new j) 0 1 1 true 2) = some [.int .i64 77, .int .i64 0] := by
    refine ⟨rfl, ?_⟩
    unfold firstA
    simp only [rangeOr, loadRange_new E hj]
    rfl
  rw [app_22_22, hf.1]
  simp only [Option.bind_some, hf.2]
  rcases hr with ⟨rfl, rfl⟩ | ⟨pre', rfl, hg⟩
  · unfold growA
    rw [if_pos (by rfl)]
    simp only
    rw [if_neg (by decide), if_pos ⟨by decide, by decide⟩]
    obtain ⟨a, b, c, d⟩ := F.newCells [AV.int .i64 77, .int .i64 0]
    exact ⟨_, rfl, d, fun i al pr _ h => b i al pr h, c, [], a⟩
  · obtain ⟨H1, q, e1, e2, e3, e4, e5⟩ := F.growN (E := E) (i := 0) (n := arms.length) (cap := arms.length) (sz := 2) (ex := false) hg (by rw [armsC_length]; omega) (bytes := 16) (m := 1) [.int .i64 77, .int .i64 0] (by rfl) (by decide) (by rfl) ⟨by decide, by omega⟩
    refine ⟨H1, e1, e5, e4, e2, q, ?_⟩
    rw [e3, List.drop_zero, ← armsC_length, List.take_length]

theorem store1W {H H2 : AHeap} {t : TypeId} {b n : Nat} {x : AV} {K : AV → AHeap → Prop} (hs : sizeA Try.prog t = some 1) (hx : x.cells = [x]) (h : storeRange H (.new b) n [x] = some H2) (hk : K undefA H2) : storeW Try.prog H t (.ptr (.new b) n) x K := by
  unfold storeW
  simp only [hs, hx, List.length_cons, List.length_nil, Nat.zero_add, if_true, h]
  exact hk

theorem lent_ok (F : Fine H) {x : In} (ho : x.Ok) (hs : x.arms.length < 2 ^ 30) (ha : ArmsAt E All H x.av x.arms) : FnX Try.prog E w0 12 [.agg x.cells] H fun v H' =>
    ∃ av', v = .agg [.int .u8 x.op, .int .i64 x.a, .int .i64 x.b, av'] ∧ Lent (fun k => H.next ≤ k) H' av' x.arms ∧ Stays H H' := by
  refine V12_ok ?_
  unfold V12
  have hcl : AV.cells (.agg x.cells) = x.cells := rfl
  have hz : AV.cells (.agg [(.int .u8 0), (.int .i64 0), (.int .i64 0), .nilSlc]) = [(.int .u8 0), (.int .i64 0), (.int .i64 0), .nilSlc] := rfl
  obtain ⟨a1, a2, a3, F1⟩ := F.newCells x.cells
  rw [wW, hcl, zero_24, oS, wW, hz]
  generalize hH1 : newCells H x.cells = H1 at *
  obtain ⟨b1, b2, b3, F2⟩ := F1.newCells [AV.int .u8 0, .int .i64 0, .int .i64 0, .nilSlc]
  generalize hH2 : newCells H1 [AV.int .u8 0, .int .i64 0, .int .i64 0, .nilSlc] = H2 at *
  have g2 := b2 _ _ _ a1
  obtain ⟨l0, l1, l2, l3, l4⟩ := In.loads (E := E) g2
  simp only [fa_24_0, fa_24_1, fa_24_2, fa_24_3, Nat.zero_add, Nat.add_zero, oS, l0, l1, l2, bld_24, wW, hz]
  obtain ⟨c1, c2, c3, F3⟩ := F2.newCells [AV.int .u8 0, .int .i64 0, .int .i64 0, .nilSlc]
  generalize hH3 : newCells H2 [AV.int .u8 0, .int .i64 0, .int .i64 0, .nilSlc] = H3 at *
  obtain ⟨H4, d1, d2, d3, d4, F4⟩ := F3.stores c1 (n := 0) (vs := [.int .u8 x.op, .int .i64 x.a, .int .i64 x.b, .nilSlc]) (by simp) (by simp) (by rfl)
  rw [setMany_all (by rfl)] at d2
  refine storesW sz_24 d1 ?_
  have s24 : Stays H2 H4 := fun k all pre hk => d3 _ _ _ (by have := F2.lt hk; omega) (c2 _ _ _ hk)
  have s04 : Stays H H4 := stays_trans a2 (stays_trans b2 s24)
  have g4 := s24 _ _ _ g2
  have p4 : loadV Try.prog E H4 22 (.ptr (.new H2.next) 3) = some .nilSlc := by rw [ld_22, loadCell_new E d2]; rfl
  simp only [p4, oS, (In.loads (E := E) g4).2.2.2.1]
  obtain ⟨r5, H5, e5, F5, s5, n5, hr5⟩ := app_arms F4 (ha.keep (Keeps.of s04)) hs
  rw [e5, o2S]
  have d5 := s5 _ _ _ d2
  obtain ⟨hrs, hrc⟩ : Am.scalar r5 = true ∧ r5.cells = [r5] := by rcases hr5 with ⟨rfl, _⟩ | ⟨pre, rfl, _⟩ <;> exact ⟨rfl, rfl⟩
  obtain ⟨H6, f1, f2, f3, f4, F6⟩ := F5.store d5 (n := 3) (x := r5) (by simp) hrs
  refine store1W sz_22 hrc f1 ?_
  have f2 : H6.get H2.next = some (.cells [.int .u8 x.op, .int .i64 x.a, .int .i64 x.b, r5] true []) := f2
  have p6 : loadV Try.prog E H6 22 (.ptr (.new H2.next) 3) = some r5 := by rw [ld_22, loadCell_new E f2]; rfl
  simp only [p6, oS, bld_49, bs_22, o2S]
  have hr6 : (r5 = .nilSlc ∧ x.arms = []) ∨ ∃ pre, r5 = .slc (.new H4.next) 0 x.arms.length x.arms.length false 2 ∧ H6.get H4.next = some (.cells (armsC x.arms) true pre) := by
    rcases hr5 with h | ⟨pre, e, g⟩
    · exact .inl h
    · exact .inr ⟨pre, e, f3 _ _ _ (by omega) g⟩
  obtain ⟨h1, h2, h3, F7⟩ := F6.newCells [AV.int .i64 77, .int .i64 0]
  generalize hH7 : newCells H6 [AV.int .i64 77, .int .i64 0] = H7 at *
  have hr7 : (r5 = .nilSlc ∧ x.arms = []) ∨ ∃ pre, r5 = .slc (.new H4.next) 0 x.arms.length x.arms.length false 2 ∧ H7.get H4.next = some (.cells (armsC x.arms) true pre) := by
    rcases hr6 with h | ⟨pre, e, g⟩
    · exact .inl h
    · exact .inr ⟨pre, e, h2 _ _ _ g⟩
  obtain ⟨H8, e8, F8, but8, n8, q8, g8⟩ := app_mark (E := E) F7 hr7 (by omega) h1 hs
  rw [e8, o2S]
  have f8 := but8 _ _ _ (show H2.next ≠ H4.next by omega) (h2 _ _ _ f2)
  obtain ⟨H9, i1, i2, i3, i4, F9⟩ := F8.store f8 (n := 3) (x := .slc (.new H7.next) 0 (x.arms.length + 1) (x.arms.length + 1) false 2) (by simp) rfl
  refine store1W sz_22 rfl i1 ?_
  have s49 : ∀ {j al pr}, j < H2.next → H4.get j = some (.cells al true pr) → H9.get j = some (.cells al true pr) := fun {j al pr} hj hg =>
    i3 _ _ _ (by omega) (but8 _ _ _ (by omega) (h2 _ _ _ (f3 _ _ _ (by omega) (s5 _ _ _ hg))))
  have g9 : H9.get H.next = some (.cells x.cells true []) := s49 (by omega) g4
  have i2 : H9.get H2.next = some (.cells [.int .u8 x.op, .int .i64 x.a, .int .i64 x.b, .slc (.new H7.next) 0 (x.arms.length + 1) (x.arms.length + 1) false 2] true []) := i2
  have p9 : loadV Try.prog E H9 22 (.ptr (.new H2.next) 3) = some (.slc (.new H7.next) 0 (x.arms.length + 1) (x.arms.length + 1) false 2) := by rw [ld_22, loadCell_new E i2]; rfl
  simp only [p9, oS, (In.loads (E := E) g9).2.2.2.1, ha.len, cut_22 H9 H7.next (x.arms.length + 1) (x.arms.length + 1) false x.arms.length (by omega)]
  obtain ⟨H10, j1, j2, j3, j4, F10⟩ := F9.store i2 (n := 3) (x := .slc (.new H7.next) 0 x.arms.length (x.arms.length + 1) false 2) (by simp) rfl
  refine store1W sz_22 rfl j1 ?_
  have j2 : H10.get H2.next = some (.cells [.int .u8 x.op, .int .i64 x.a, .int .i64 x.b, .slc (.new H7.next) 0 x.arms.length (x.arms.length + 1) false 2] true []) := j2
  rw [ld_24, loadRange_new E j2, if_pos (by simp)]
  have ht : List.take 4 (List.drop 0 [AV.int .u8 x.op, .int .i64 x.a, .int .i64 x.b, .slc (.new H7.next) 0 x.arms.length (x.arms.length + 1) false 2]) = [AV.int .u8 x.op, .int .i64 x.a, .int .i64 x.b, .slc (.new H7.next) 0 x.arms.length (x.arms.length + 1) false 2] := rfl
  rw [ht, Option.bind_some, oS]
  have b10 : H10.get H1.next = some (.cells [.int .u8 0, .int .i64 0, .int .i64 0, .nilSlc] true []) := j3 _ _ _ (by omega) (s49 (by omega) (s24 _ _ _ b1))
  obtain ⟨H11, k1, k2, k3, k4, F11⟩ := F10.stores b10 (n := 0) (vs := [AV.int .u8 x.op, .int .i64 x.a, .int .i64 x.b, .slc (.new H7.next) 0 x.arms.length (x.arms.length + 1) false 2]) (by simp) (by simp) (by rfl)
  rw [setMany_all (by rfl)] at k2
  refine storesW sz_24 k1 ?_
  show optW (loadVarA Try.prog E H11 24 (.new H1.next) 0) _
  rw [lv_24, loadRange_new E k2, if_pos (by simp), ht, Option.bind_some, oS]
  refine ⟨_, rfl, ⟨H7.next, x.arms.length + 1, false, q8, rfl, by omega, ?_, by omega⟩, fun j al pr hj => ?_⟩
  · exact k3 _ _ _ (by omega) (j3 _ _ _ (by omega) (i3 _ _ _ (by omega) g8))
  · have := F.lt hj
    exact k3 _ _ _ (by omega) (j3 _ _ _ (by omega) (s49 (by omega) (s04 _ _ _ hj)))

theorem same_ok (F : Fine H) {x y : In} (ho : x.Ok) (ha : ArmsAt E All H x.av x.arms) (hb : ArmsAt E All H y.av y.arms) (h1 : x.op = y.op) (h2 : x.a = y.a) (h3 : x.b = y.b) (h4 : x.arms = y.arms) : FnX Try.prog E w0 21 [.agg x.cells, .agg y.cells] H fun v H' => v = .bool true ∧ Stays H H' := by
  refine V21_ok ?_
  unfold V21
  have hcl : ∀ x : In, AV.cells (.agg x.cells) = x.cells := fun _ => rfl
  obtain ⟨a1, a2, a3, F1⟩ := F.newCells x.cells
  rw [wW, hcl, wW, hcl]
  generalize hH1 : newCells H x.cells = H1 at *
  obtain ⟨b1, b2, b3, F2⟩ := F1.newCells y.cells
  generalize hH2 : newCells H1 y.cells = H2 at *
  have g2 := b2 _ _ _ a1
  have s02 := stays_trans a2 b2
  obtain ⟨l0, l1, l2, l3, l4⟩ := In.loads (E := E) g2
  obtain ⟨m0, m1, m2, m3, m4⟩ := In.loads (E := E) b1
  have hsh := ho.short
  simp only [fa_24_0, fa_24_1, fa_24_2, fa_24_3, Nat.zero_add, Nat.add_zero, oS, l0, l1, l2, l3, m0, m1, m2, m3, ha.len, hb.len, h1, h2, h3, h4, nev_5, nev_2, nev_3, bne_self_eq_false, wB, bff, vT, pB, Bool.false_eq_true, if_false, cF]
  refine loop21_0 (I := fun n t2 t3 t5 H' => t2 = .ptr (.new H.next) 0 ∧ t3 = .ptr (.new H1.next) 0 ∧ H' = H2 ∧ ∃ i : Nat, t5 = .int .i64 (i : Int) ∧ i + n = x.arms.length) ?_ (n := x.arms.length) ⟨rfl, rfl, rfl, 0, rfl, by omega⟩
  rintro n _ _ _ H3 ⟨rfl, rfl, rfl, i, rfl, hi⟩
  intros
  unfold B21_0
  simp only [fa_24_3, Nat.zero_add, oS, l3, m3, ha.len, bin_lss]
  rw [condW_bool]
  refine ⟨fun hlt => ?_, fun hge => ⟨by trivial, s02⟩⟩
  have hlt : i < x.arms.length := by have := of_decide_eq_true hlt; omega
  obtain ⟨z, hz⟩ : ∃ z, z = x.arms[i] := ⟨_, rfl⟩
  have hzj : x.arms[i]? = some z := by rw [hz]; exact List.getElem?_eq_getElem hlt
  have hzj' : y.arms[i]? = some z := by rw [← h4]; exact hzj
  obtain ⟨o, q, e1, e2, _, _⟩ := (ha.keep (Keeps.of s02)).at hzj
  obtain ⟨o', q', e1', e2', _, _⟩ := (hb.keep (Keeps.of s02)).at hzj'
  have e2 : loadV Try.prog E H3 49 (.ptr o q) = some (.agg [.int .i64 z.1, .int .i64 z.2]) := by rw [ld_49, e2]; rfl
  have e2' : loadV Try.prog E H3 49 (.ptr o' q') = some (.agg [.int .i64 z.1, .int .i64 z.2]) := by rw [ld_49, e2']; rfl
  simp only [true_and, and_true, e1, e1', e2, e2', oS, nev_49, beq_self_eq_true, Bool.and_self, Bool.not_true, cF, bin_add]
  rw [wrap_i64 (by omega) (by omega)]
  exact ⟨n - 1, by omega, rfl, rfl, rfl, rfl, i + 1, by simp, by omega⟩

theorem kept_ok (F : Fine H) {x y : In} (ho : x.Ok) (hl : Lent All H x.av x.arms) (hb : ArmsAt E All H y.av y.arms) (h1 : x.op = y.op) (h2 : x.a = y.a) (h3 : x.b = y.b) (h4 : x.arms = y.arms) : FnX Try.prog E w0 19 [.agg x.cells, .agg y.cells] H fun v H' => v = .bool true ∧ Stays H H' := by
  refine V19_ok ?_
  unfold V19
  have hcl : ∀ x : In, AV.cells (.agg x.cells) = x.cells := fun _ => rfl
  obtain ⟨a1, a2, a3, F1⟩ := F.newCells x.cells
  rw [wW, hcl, wW, hcl]
  generalize hH1 : newCells H x.cells = H1 at *
  obtain ⟨b1, b2, b3, F2⟩ := F1.newCells y.cells
  generalize hH2 : newCells H1 y.cells = H2 at *
  have g2 := b2 _ _ _ a1
  have s02 := stays_trans a2 b2
  simp only [(In.loads (E := E) g2).2.2.2.2, (In.loads (E := E) b1).2.2.2.2, oS, true_and]
  refine (same_ok F2 ho (hl.toArms.keep (Keeps.of s02)) (hb.keep (Keeps.of s02)) h1 h2 h3 h4).use ?_
  rintro v H3 ⟨rfl, s3⟩ F3 n3
  have s03 := stays_trans s02 s3
  have hsh := ho.short
  obtain ⟨k, cap, ex, pre, e, hc, hg, _⟩ := hl.keep (Keeps.of s03)
  have len : ∀ H2, lenV Try.prog H2 22 y.av = some (.int .i64 x.arms.length) := fun H2 => by rw [h4]; exact hb.len H2
  simp only [wB, btt, vT, fa_24_3, Nat.zero_add, (In.loads (E := E) (s3 _ _ _ g2)).2.2.2.1, (In.loads (E := E) (s3 _ _ _ b1)).2.2.2.1, oS, true_and, len, bin_add, e]
  have hw : IntKind.i64.wrap ((x.arms.length : Int) + 1) = ((x.arms.length + 1 : Nat) : Int) := by rw [wrap_i64 (by omega) (by omega)]; simp
  rw [hw, cut_22 H3 k x.arms.length cap ex (x.arms.length + 1) (by omega), oS]
  have hx : loadV Try.prog E H3 2 (.ptr (.new k) (x.arms.length * 2)) = some (.int .i64 77) := by
    rw [ld_2, loadCell_new E hg, List.getElem?_append_right (by rw [armsC_length]; omega), armsC_length, Nat.sub_self]
    rfl
  rw [ix_22, if_pos ⟨by omega, by omega⟩]
  simp only [oS, fa_49_0, Nat.zero_add, Nat.add_zero, Int.toNat_natCast, hx, eqv_2, beq_self_eq_true, pB, if_true, true_and]
  exact s03
end
end Go.Proofs.Ytcboaonbfgjmgaa.op

/-
  OpsWrites: its law.
-/
open Go.Proofs Go Go.Am
namespace Go.Proofs.Ytcboaonbfgjmgaa.op
open Go.Proofs.Ytcboaonbfgjmgaa.vb Go.Proofs.Ytcboaonbfgjmgaa.vr Go.Proofs.Ytcboaonbfgjmgaa.vw
set_option linter.unusedVariables false
set_option linter.unusedSimpArgs false
set_option maxRecDepth 100000

variable {E : Env} {w0 : World}

theorem works_ok {H : AHeap} : FnX Try.prog E w0 11 [] H fun v H' => v = .bool true := by
  have h : (callFA Try.prog (fun _ => none) noOv 200 11 [] AHeap.empty).map (·.1) = some (.bool true) := by kernel_rfl
  cases hr : callFA Try.prog (fun _ => none) noOv 200 11 [] AHeap.empty with
  | none => rw [hr] at h; cases h
  | some r =>
    obtain ⟨v, H1⟩ := r
    rw [hr] at h
    simp only [Option.map_some, Option.some.injEq] at h
    subst h
    refine (fnX_pure vb.mixed hr ?_ ?_).mono fun v' H' h => h.1
    · intro ρ vs h
      exact h
    · intro ρ ρ' u h
      exact h

theorem fldB_av (x : In) (av : AV) : ∀ (l : List Fd) (i : Nat), fldB { x with av := av } i l = fldB x i l
  | [], _ => rfl
  | f :: l, i => by simp only [fldB, fldB_av x av l]; rfl
theorem fldOk_av (x : In) (av : AV) : ∀ (l : List Fd) (i : Nat), fldOk { x with av := av } i l = fldOk x i l
  | [], _ => rfl
  | f :: l, i => by simp only [fldOk, fldOk_av x av l]; rfl
theorem isS_av (x : In) (av : AV) : isS { x with av := av } = isS x := by unfold isS; rw [fldOk_av]
theorem encB_av (x : In) (av : AV) : encB { x with av := av } = encB x := by unfold encB; rw [fldB_av]

theorem encB_short {x : In} (h : isS x = true) : (encB x).length < 2 ^ 30 := by
  obtain ⟨l, hl, hlen⟩ := isS_some h
  have hsz : ∀ f ∈ l, f.size ≤ 8 := by have := lay_size (op := x.op); rw [hl] at this; exact fun f hf => (this f hf).2
  have hll : l.length ≤ 2 := by have := lay_length (op := x.op); rw [hl] at this; exact this
  have := fldB_length x 0 l hsz
  unfold encB
  rw [hl, List.length_append, List.length_cons, Option.getD_some]
  split
  · rename_i h49
    have := hlen h49
    rw [List.length_append, List.length_append, fixS_length, fixS_length, armsB_length]
    omega
  · simp only [List.length_nil]; omega

theorem box24 {H : AHeap} (F : Fine H) {cs : List AV} (hl : cs.length = 4) (hs : cs.all Am.scalar = true) {K : AV → AHeap → Prop} (hK : ∀ H', Fine H' → Stays H H' → H'.next = H.next + 1 → H'.get H.next = some (.cells cs true []) → K (.ptr (.new H.next) 0) H') :
    optW (zeroOf Try.prog 24) fun z => withW (.ptr (.new H.next) 0) (newCells H (AV.cells z)) fun p H1 => storeW Try.prog H1 24 p (.agg cs) fun _ H2 => K p H2 := by
  have hz : AV.cells (.agg [(.int .u8 0), (.int .i64 0), (.int .i64 0), .nilSlc]) = [(.int .u8 0), (.int .i64 0), (.int .i64 0), .nilSlc] := rfl
  rw [zero_24, oS, wW, hz]
  obtain ⟨a1, a2, a3, F1⟩ := F.newCells [AV.int .u8 0, .int .i64 0, .int .i64 0, .nilSlc]
  obtain ⟨H2, c1, c2, c3, c4, F2⟩ := F1.stores a1 (n := 0) (vs := cs) (by intro e; rw [e] at hl; simp at hl) (by simp [hl]) hs
  rw [setMany_all (by rw [hl]; rfl)] at c2
  have hsz : sizeA Try.prog 24 = some (AV.cells (.agg cs)).length := by
    match cs, hl with
    | [a, b, c, d], _ => exact sz_24
  refine storesW hsz c1 ?_
  exact hK H2 F2 (fun k all pre hk => c3 _ _ _ (by have := F.lt hk; omega) (a2 _ _ _ hk)) (by omega) c2

theorem writes_ok {H : AHeap} {x : In} (ho : x.Ok) (ha : ∀ H', ArmsAt E All H' x.av x.arms) (hsc : Am.scalar x.av = true) : FnX Try.prog E w0 3 [.agg x.cells] H fun v _ => v = .bool true := by
  refine fnX_fine fun F => ?_
  refine V3_ok ?_
  unfold V3
  have hcl : AV.cells (.agg x.cells) = x.cells := rfl
  obtain ⟨a1, a2, a3, F1⟩ := F.newCells x.cells
  rw [wW, hcl]
  generalize hH1 : newCells H x.cells = H1 at *
  obtain ⟨l0, l1, l2, l3, l4⟩ := In.loads (E := E) a1
  have hsh := ho.short
  simp only [fa_24_3, fa_24_0, Nat.zero_add, Nat.add_zero, oS, l3, (ha H1).len, bin_gtr]
  rw [condW_bool]
  refine ⟨fun _ => works_ok, fun hsz => ?_⟩
  have hsz : x.arms.length ≤ 70000 := by have : ¬ (x.arms.length : Int) > 70000 := of_decide_eq_false hsz; omega
  rw [l4, oS]
  refine (lent_ok F1 ho (by omega) (ha H1)).use ?_
  rintro v2 H2 ⟨av', rfl, L2, s2⟩ F2 n2
  obtain ⟨y, hy⟩ : ∃ y : In, y = { x with av := av' } := ⟨_, rfl⟩
  have hyc : (AV.agg [.int .u8 x.op, .int .i64 x.a, .int .i64 x.b, av']) = .agg y.cells := by rw [hy]; rfl
  have hyo : y.Ok := by rw [hy]; exact ⟨ho.op, ho.a, ho.b, ho.arms, ho.short⟩
  have hya : y.arms = x.arms := by rw [hy]
  have hyv : y.av = av' := by rw [hy]
  have hyS : isS y = isS x := by rw [hy]; exact isS_av x av'
  have hyB : encB y = encB x := by rw [hy]; exact encB_av x av'
  rw [hyc]
  refine box24 F2 (by rfl) (by
    obtain ⟨k, cap, ex, pre, e, _⟩ := L2
    rw [hy, e]; rfl) fun H3 F3 s3 n3 g3 => ?_
  have q3 : H3.get H.next = some (.cells x.cells true []) := s3 _ _ _ (s2 _ _ _ a1)
  have L3 : Lent All H3 y.av y.arms := by rw [hyv, hya]; exact (L2.keep (Keeps.of s3)).less F3 fun _ _ _ => trivial
  rw [(In.loads (E := E) q3).2.2.2.2, oS]
  refine (encodeR_ok F3 ho (ha H3)).use ?_
  rintro v4 H4 ⟨s4, r4, k4, rfl, B4, hk4⟩ F4 n4
  simp only [ex0, ex1, oS, (In.loads (E := E) (s4 _ _ _ g3)).2.2.2.2]
  refine (encode_ok F4 hyo (L3.keep (Keeps.of s4)).toArms).use ?_
  rintro v5 H5 ⟨s5, r5, k5, rfl, B5, hk5, _⟩ F5 n5
  have s35 := stays_trans s4 s5
  have B45 := B4.keep fun all pre hg => s5 _ _ _ hg
  rw [hyS, hyB] at B5
  rw [hyS]
  have g5 := s35 _ _ _ g3
  have q5 := s35 _ _ _ q3
  simp only [ex0, ex1, oS, B5.text, B45.text, true_and, nev_9, beq_self_eq_true, Bool.not_true, wB, bff, vT, nev_28, bne_self_eq_false, pB, Bool.false_eq_true, if_false, (In.loads (E := E) g5).2.2.2.2, gT]
  refine (size_ok F5 hyo (L3.keep (Keeps.of s35)).toArms).use ?_
  rintro v6 H6 ⟨s6, rfl⟩ F6 n6
  have q6 := s6 _ _ _ q5
  simp only [true_and, (In.loads (E := E) q6).2.2.2.2, (In.loads (E := E) q5).2.2.2.2, vT, oS, gT]
  refine (sizeR_ok F6 ho (ha H6)).use ?_
  rintro v7 H7 ⟨s7, rfl⟩ F7 n7
  have q7 := s7 _ _ _ q6
  rw [hyS, hyB]
  simp only [true_and, vT, oS, nev_3, bne_self_eq_false, pB, Bool.false_eq_true, if_false, wB, bff, fa_24_0, Nat.add_zero, (In.loads (E := E) q7).1, gT]
  refine (name_ok ho.op.1 ho.op.2 F7).use ?_
  rintro v8 H8 ⟨rfl, s8⟩ F8 n8
  have q8 := s8 _ _ _ q7
  simp only [true_and, vT, oS, (In.loads (E := E) q8).1, (In.loads (E := E) q7).1, gT]
  refine (nameR_ok ho.op.1 ho.op.2 F8).use ?_
  rintro v9 H9 ⟨rfl, s9⟩ F9 n9
  have s59 := stays_trans s6 (stays_trans s7 (stays_trans s8 s9))
  simp only [true_and, vT, oS, nev_9, beq_self_eq_true, Bool.not_true, pB, Bool.false_eq_true, if_false, cF]
  have B9 := B5.keep fun all pre hg => s59 _ _ _ hg
  have B49 := B45.keep fun all pre hg => s59 _ _ _ hg
  obtain ⟨N, hN⟩ : ∃ N, N = (if isS x = true then encB x else []).length := ⟨_, rfl⟩
  have s49 := stays_trans s5 s59
  have s39 := stays_trans s4 s49
  refine loop3_0 (I := fun n t1 t3 t4 t6 t8 H' => t1 = .ptr (.new H.next) 0 ∧ t3 = .ptr (.new H2.next) 0 ∧ r4 = t4 ∧ r5 = t6 ∧ ∃ i : Nat, t8 = .int .i64 (i : Int) ∧ i + n = N ∧ Fine H' ∧ Keeps (fun j => j < H4.next) H9 H' ∧
      (N = 0 ∨ ∃ cap ex all pre, r5 = .slc (.new k5) 0 N cap ex 1 ∧ H'.get k5 = some (.cells all true pre) ∧ N ≤ all.length)) ?_ (n := N)
    ⟨rfl, rfl, rfl, rfl, 0, rfl, by omega, F9, Keeps.refl, ?_⟩
  rotate_left
  · rcases B9 with ⟨_, h⟩ | ⟨cap, ex, all, pre, e, g, t, c⟩
    · exact .inl (by rw [hN, h]; rfl)
    · refine .inr ⟨cap, ex, all, pre, by rw [hN]; exact e, g, ?_⟩
      have := congrArg List.length t
      rw [List.length_take, bys_length] at this
      omega
  rintro n _ _ _ _ _ Ha ⟨rfl, rfl, rfl, rfl, i, rfl, hi, Fa, Ka, hr⟩
  intros
  unfold B3_0
  rw [B9.len, ← hN, oS, bin_lss, oS, condW_bool]
  have hNl : N < 2 ^ 40 := by
    rw [hN]
    split
    · rename_i h; have := encB_short h; omega
    · simp
  refine ⟨fun hlt => ?_, fun hge => ?_⟩
  · have hlt : i < N := by have := of_decide_eq_true hlt; omega
    obtain ⟨cap, ex, all, pre, e, g, hl⟩ := hr.resolve_left (by omega)
    obtain ⟨Hb, c1, c2, c3, c4, Fb⟩ := Fa.store g (n := i) (x := .int .u8 99) (by omega) rfl
    rw [e, ix_27, if_pos ⟨by omega, by omega⟩]
    simp only [oS, Nat.zero_add, Int.toNat_natCast, Nat.mul_one]
    refine storesW sz_5 c1 ?_
    rw [bin_add, oS, wrap_i64 (by omega) (by omega)]
    refine ⟨n - 1, by omega, rfl, rfl, rfl, rfl, rfl, i + 1, by simp, by omega, Fb, ?_, .inr ⟨cap, ex, _, _, rfl, c2, by rw [List.length_set]; exact hl⟩⟩
    exact Keeps.trans Ka (Keeps.but (X := fun j => j < H4.next) c3 fun j (hj : j < H4.next) => by omega) F9 fun _ _ h => h
  · have K3a : ∀ {j al pr}, H3.get j = some (.cells al true pr) → Ha.get j = some (.cells al true pr) := fun {j al pr} hg => Ka _ _ _ (show j < H4.next by have := F3.lt hg; omega) (s39 _ _ _ hg)
    have La : Lent All Ha y.av y.arms := L3.keep fun j al pr _ hg => K3a hg
    rw [(In.loads (E := E) (K3a g3)).2.2.2.2, oS]
    refine (encode_ok Fa hyo La.toArms).use ?_
    rintro v10 Hc ⟨sc, r10, k10, rfl, B10, hk10, _⟩ Fc nc
    rw [hyS, hyB] at B10
    have B4c : Bs Hc r4 (if isS x = true then encB x else []) k4 := by
      refine B4.keep fun all pre hg => sc _ _ _ (Ka _ _ _ (show k4 < H4.next from F4.lt hg) (s49 _ _ _ hg))
    simp only [ex0, ex1, oS, B10.text, B4c.text, eqv_9, beq_self_eq_true, wB, btt, vT, (In.loads (E := E) (sc _ _ _ (K3a g3))).2.2.2.2, (In.loads (E := E) (sc _ _ _ (K3a q3))).2.2.2.2, gT]
    refine (kept_ok Fc hyo (La.keep (Keeps.of sc)) (ha Hc) (by rw [hy]) (by rw [hy]) (by rw [hy]) hya).use ?_
    rintro v11 Hd ⟨rfl, sd⟩ Fd' nd
    simp only [pB, if_true, oS, wB, btt, gT]
    refine works_ok.use ?_
    rintro v12 He rfl _ _
    simp only [pB, if_true, oS]
end Go.Proofs.Ytcboaonbfgjmgaa.op
