/-
  The document's parts.
-/
import Derived.Test.YtcboaonbfgjmgaaOg
open Go.Proofs Go Go.Am
namespace Go.Proofs.Ytcboaonbfgjmgaa.op
open Go.Proofs.Ytcboaonbfgjmgaa.vb Go.Proofs.Ytcboaonbfgjmgaa.vr
set_option linter.unusedVariables false
set_option linter.unusedSimpArgs false
set_option maxRecDepth 100000

variable {E : Env} {w0 : World}

theorem or5 {a : Bool} {n m : Int} {x y : Operand} {K : AV → Prop} : (optW (valG (wantsA (.bool a) false) (some (.int .u8 n))) fun v13 => optW (valG (wantsA (.bool a) false) (binV Try.prog .eql 5 x y v13 (.int .u8 m))) fun v14 => optW (pickV (.bool a) (.bool true) v14) K) = K (.bool (a || n == m)) := by
  cases a
  · simp only [wB, bff, vT, oS, eqv_5, pB, Bool.false_eq_true, if_false, Bool.false_or]
  · simp only [wB, btf, vF, oS, pB, if_true, Bool.true_or]
theorem and5 {n m k : Int} {K : AV → Prop} : (optW (binA Try.prog .geq 5 (.int .u8 n) (.int .u8 m)) fun v => optW (valG (wantsA v true) (some (.int .u8 n))) fun v' => optW (valG (wantsA v true) (binA Try.prog .leq 5 v' (.int .u8 k))) fun w => optW (pickV v w (.bool false)) K) = K (.bool (decide (m ≤ n ∧ n ≤ k))) := by
  rw [bin_geq, oS]
  by_cases h : n ≥ m
  · by_cases h2 : n ≤ k
    · simp only [dT h, dT h2, dT (show m ≤ n ∧ n ≤ k from ⟨h, h2⟩), wB, btt, vT, oS, bin_leq, pB, if_true]
    · simp only [dT h, dF h2, dF (show ¬ (m ≤ n ∧ n ≤ k) from fun e => h2 e.2), wB, btt, vT, oS, bin_leq, pB, if_true]
  · simp only [dF h, dF (show ¬ (m ≤ n ∧ n ≤ k) from fun e => h e.1), wB, bft, vF, oS, pB, Bool.false_eq_true, if_false]
theorem orand5 {a : Bool} {n m k : Int} {K : AV → Prop} : (optW (valG (wantsA (.bool a) false) (some (.int .u8 n))) fun v25 => optW (valG (wantsA (.bool a) false) (binA Try.prog .geq 5 v25 (.int .u8 m))) fun v26 => optW (valG (wantsA (.bool a) false) (some v26)) fun v27 => optW (valG (wantsA v27 true) (some (.int .u8 n))) fun v28 =>
    optW (valG (wantsA v27 true) (binA Try.prog .leq 5 v28 (.int .u8 k))) fun v29 => optW (valG (wantsA (.bool a) false) (pickV v27 v29 (.bool false))) fun v30 => optW (pickV (.bool a) (.bool true) v30) K) = K (.bool (a || decide (m ≤ n ∧ n ≤ k))) := by
  cases a
  · simp only [wB, bff, vT, oS, bin_geq]
    by_cases h : n ≥ m
    · by_cases h2 : n ≤ k
      · simp only [dT h, dT h2, dT (show m ≤ n ∧ n ≤ k from ⟨h, h2⟩), wB, btt, vT, oS, bin_leq, pB, if_true, Bool.false_eq_true, if_false, Bool.or_true]
      · simp only [dT h, dF h2, dF (show ¬ (m ≤ n ∧ n ≤ k) from fun e => h2 e.2), wB, btt, vT, oS, bin_leq, pB, if_true, Bool.false_eq_true, if_false, Bool.or_false]
    · simp only [dF h, dF (show ¬ (m ≤ n ∧ n ≤ k) from fun e => h e.1), wB, bft, vF, oS, pB, Bool.false_eq_true, if_false, Bool.or_false]
  · have hu : wantsA undefA true = some false := rfl
    simp only [wB, btf, vF, oS, hu, pB, if_true, Bool.true_or]

/-- A part's cells. -/
def partc (f : Fd) : List AV := [.int .i64 (f.size : Int), .int .i64 f.lo, .int .i64 f.hi, .bool (decide (f.lo < 0))]
/-- Parts. -/
def PartsAt (X : Nat → Prop) (H : AHeap) (lv : AV) (l : List Fd) : Prop :=
  (lv = .nilSlc ∧ l = []) ∨ ∃ k cap ex all pre, lv = .slc (.new k) 0 l.length cap ex 4 ∧ H.get k = some (.cells all true pre) ∧ X k ∧ ∀ j f, l[j]? = some f → (all.drop (j * 4)).take 4 = partc f
section
variable {H H' : AHeap} {X Y : Nat → Prop} {lv : AV} {l : List Fd}
theorem PartsAt.keep (h : PartsAt X H lv l) (hk : Keeps X H H') : PartsAt X H' lv l := by
  rcases h with h | ⟨k, cap, ex, all, pre, e, g, x, hf⟩
  · exact .inl h
  · exact .inr ⟨k, cap, ex, all, pre, e, hk _ _ _ x g, x, hf⟩
theorem PartsAt.less (h : PartsAt X H lv l) (F : Fine H) (hxy : ∀ k, k < H.next → X k → Y k) : PartsAt Y H lv l := by
  rcases h with h | ⟨k, cap, ex, all, pre, e, g, x, hf⟩
  · exact .inl h
  · exact .inr ⟨k, cap, ex, all, pre, e, g, hxy _ (F.lt g) x, hf⟩
theorem PartsAt.len (h : PartsAt X H lv l) (H2 : AHeap) : lenV Try.prog H2 69 lv = some (.int .i64 l.length) := by
  rcases h with ⟨rfl, rfl⟩ | ⟨k, cap, ex, all, pre, rfl, _⟩
  · exact len0_69 _
  · exact len_69 ..
theorem PartsAt.at (h : PartsAt X H lv l) {j : Nat} {f : Fd} (hj : l[j]? = some f) : ∃ k i, indexAtA Try.prog 69 lv (.int .i64 (j : Int)) = some (.ptr (.new k) i) ∧ loadV Try.prog E H 74 (.ptr (.new k) i) = some (.agg (partc f)) ∧ loadCell E H (.new k) i = some (.int .i64 (f.size : Int)) := by
  have hlt : j < l.length := (List.getElem?_eq_some_iff.1 hj).1
  rcases h with ⟨rfl, rfl⟩ | ⟨k, cap, ex, all, pre, rfl, g, x, hf⟩
  · simp at hj
  · have a := hf j f hj
    have hl := congrArg List.length a
    simp only [List.length_take, List.length_drop, partc, List.length_cons, List.length_nil] at hl
    have a0 := congrArg (fun l => l[0]?) a
    simp [partc] at a0
    refine ⟨k, j * 4, ?_, ?_, ?_⟩
    · rw [ix_69, if_pos ⟨by omega, by omega⟩]; simp
    · rw [ld_74, loadRange_new E g, if_pos (by omega), a]
      rfl
    · rw [loadCell_new E g]; exact a0

theorem bs_69 (H : AHeap) (a b c d : AV) : buildSliceA Try.prog H 69 1 [(0, .agg [a, b, c, d])] = some (.slc (.new H.next) 0 1 1 true 4, newCells H [a, b, c, d]) := by kernel_rfl
theorem bs2_69 (H : AHeap) (a b c d a' b' c' d' : AV) : buildSliceA Try.prog H 69 2 [(0, .agg [a, b, c, d]), (1, .agg [a', b', c', d'])] = some (.slc (.new H.next) 0 2 2 true 4, newCells H [a, b, c, d, a', b', c', d']) := by kernel_rfl
theorem bld_s (s lo hi : Int) (b : Bool) : buildA Try.prog 74 [(0, .int .i64 s), (1, .int .i64 lo), (2, .int .i64 hi), (3, .bool b)] = some (.agg [.int .i64 s, .int .i64 lo, .int .i64 hi, .bool b]) := by kernel_rfl
theorem bld_h (s hi : Int) : buildA Try.prog 74 [(0, .int .i64 s), (2, .int .i64 hi)] = some (.agg [.int .i64 s, .int .i64 0, .int .i64 hi, .bool false]) := by kernel_rfl
theorem bld_w (s lo hi : Int) : buildA Try.prog 74 [(0, .int .i64 s), (1, .int .i64 lo), (2, .int .i64 hi)] = some (.agg [.int .i64 s, .int .i64 lo, .int .i64 hi, .bool false]) := by kernel_rfl
theorem sz_74 {a b c d : AV} : sizeA Try.prog 74 = some (AV.cells (.agg [a, b, c, d])).length := by kernel_rfl

theorem one_part (F : Fine H) {f : Fd} (hX : ∀ k, H.next ≤ k → X k) {K : AV → AHeap → Prop} (hK : ∀ lv H', PartsAt X H' lv [f] → Stays H H' → K lv H') : opt2W (buildSliceA Try.prog H 69 1 [(0, .agg (partc f))]) K := by
  unfold partc
  rw [bs_69, o2S]
  obtain ⟨a, b, c, d⟩ := F.newCells (partc f)
  refine hK _ _ (.inr ⟨H.next, 1, true, _, _, rfl, a, hX _ (Nat.le_refl _), fun j g hj => ?_⟩) b
  cases j with
  | zero => cases hj; rfl
  | succ j => simp at hj
theorem two_parts (F : Fine H) {f g : Fd} (hX : ∀ k, H.next ≤ k → X k) {K : AV → AHeap → Prop} (hK : ∀ lv H', PartsAt X H' lv [f, g] → Stays H H' → K lv H') : opt2W (buildSliceA Try.prog H 69 2 [(0, .agg (partc f)), (1, .agg (partc g))]) K := by
  unfold partc
  rw [bs2_69, o2S]
  obtain ⟨a, b, c, d⟩ := F.newCells (partc f ++ partc g)
  refine hK _ _ (.inr ⟨H.next, 2, true, _, _, rfl, a, hX _ (Nat.le_refl _), fun j g hj => ?_⟩) b
  cases j with
  | zero => cases hj; rfl
  | succ j =>
    cases j with
    | zero => cases hj; rfl
    | succ j => simp at hj

/-- A part that is answered from a box. -/
theorem boxed_part (F : Fine H) {f : Fd} {K : AV → AHeap → Prop} (hK : ∀ H', Fine H' → Stays H H' → K (.agg (partc f)) H') :
    withW (.ptr (.new H.next) 0) (newCells H (AV.cells (.agg [(.int .i64 0), (.int .i64 0), (.int .i64 0), (.bool false)]))) fun p2 H0 => storeW Try.prog H0 74 p2 (.agg (partc f)) fun _ H5 => cellW Try.prog E H5 74 p2 fun v6 => K v6 H5 := by
  rw [wW]
  have hz : AV.cells (.agg [(.int .i64 0), (.int .i64 0), (.int .i64 0), (.bool false)]) = [.int .i64 0, .int .i64 0, .int .i64 0, .bool false] := rfl
  rw [hz]
  obtain ⟨a1, a2, a3, F1⟩ := F.newCells [AV.int .i64 0, .int .i64 0, .int .i64 0, .bool false]
  obtain ⟨H2, c1, c2, c3, c4, F2⟩ := F1.stores a1 (n := 0) (vs := partc f) (by simp [partc]) (by simp [partc]) (by rfl)
  rw [setMany_all (by rfl)] at c2
  refine storesW sz_74 c1 ?_
  show optW (loadVarA Try.prog E H2 74 (.new H.next) 0) _
  rw [lv_74, loadRange_new E c2, if_pos (by simp [partc])]
  have ht : ((partc f).drop 0).take 4 = partc f := rfl
  rw [ht, Option.bind_some, oS]
  exact hK H2 F2 fun k all pre hk => c3 _ _ _ (by have := F.lt hk; omega) (a2 _ _ _ hk)

theorem leap_ok (F : Fine H) : FnX Try.prog E w0 49 [] H fun v H' => v = .agg (partc fLeap) ∧ Stays H H' := by
  refine V49_ok ?_
  unfold V49
  simp only [zero_74, oS, bld_h]
  exact boxed_part F (f := fLeap) fun H' _ s => ⟨rfl, s⟩
theorem place_ok (F : Fine H) : FnX Try.prog E w0 64 [] H fun v H' => v = .agg (partc fIx) ∧ Stays H H' := by
  refine V64_ok ?_
  unfold V64
  simp only [zero_74, oS, bld_h]
  exact boxed_part F (f := fIx) fun H' _ s => ⟨rfl, s⟩
theorem width_ok (F : Fine H) {n : Int} : FnX Try.prog E w0 65 [.int .i64 n] H fun v H' => v = .agg (partc ⟨1, 1, n⟩) ∧ Stays H H' := by
  refine V65_ok ?_
  unfold V65
  simp only [zero_74, oS, bld_w]
  exact boxed_part F (f := ⟨1, 1, n⟩) fun H' _ s => ⟨rfl, s⟩

theorem within_ok (F : Fine H) {f : Fd} {n : Int} : FnX Try.prog E w0 62 [.agg (partc f), .int .i64 n] H fun v H' => v = .bool (f.may n) ∧ Stays H H' := by
  refine V62_ok ?_
  unfold V62
  have hz : AV.cells (.agg (partc f)) = partc f := rfl
  obtain ⟨a1, a2, a3, F1⟩ := F.newCells (partc f)
  rw [wW, hz]
  have l1 : loadV Try.prog E (newCells H (partc f)) 2 (.ptr (.new H.next) 1) = some (.int .i64 f.lo) := by rw [ld_2, loadCell_new E a1]; rfl
  have l2 : loadV Try.prog E (newCells H (partc f)) 2 (.ptr (.new H.next) 2) = some (.int .i64 f.hi) := by rw [ld_2, loadCell_new E a1]; rfl
  simp only [fa_74_1, fa_74_2, oS, Nat.zero_add, l1, l2, bin_geq]
  unfold Fd.may
  by_cases h : n ≥ f.lo
  · by_cases h2 : n ≤ f.hi
    · simp only [dT h, dT h2, dT (show f.lo ≤ n ∧ n ≤ f.hi from ⟨h, h2⟩), wB, btt, vT, oS, bin_leq, pB, if_true, fa_74_2, Nat.zero_add, l2]
      exact ⟨by trivial, a2⟩
    · simp only [dT h, dF h2, dF (show ¬ (f.lo ≤ n ∧ n ≤ f.hi) from fun e => h2 e.2), wB, btt, vT, oS, bin_leq, pB, if_true, fa_74_2, Nat.zero_add, l2]
      exact ⟨by trivial, a2⟩
  · simp only [dF h, dF (show ¬ (f.lo ≤ n ∧ n ≤ f.hi) from fun e => h e.1), wB, bft, vF, oS, pB, Bool.false_eq_true, if_false]
    exact ⟨by trivial, a2⟩

/-- The document's order of the cases. -/
def layR (op : Int) : Option (List Fd) :=
  if op = 1 then some [⟨1, -128, 127⟩] else if op = 2 then some [⟨4, -2147483648, 2147483647⟩] else if op = 3 then some [⟨8, -9223372036854775808, 9223372036854775807⟩]
  else if (op == 6 || op == 7 || op == 8 || op == 50 || op == 36 || decide (39 ≤ op ∧ op ≤ 45)) = true then some [fIx] else if (op == 37 || op == 38) = true then some [fIx, fIx]
  else if (op == 23 || op == 24) = true then some [⟨1, 1, 5⟩] else if decide (11 ≤ op ∧ op ≤ 28) = true then some [fWid] else if op = 29 then some [fWid, fWid]
  else if (op == 46 || op == 47 || op == 48) = true then some [fLeap] else if op = 52 then some [⟨1, 0, 255⟩] else if op = 49 then some [fWid] else if decide (1 ≤ op ∧ op ≤ 52) = true then some [] else none
theorem layR_is (op : Int) : layR op = lay op := by
  unfold layR lay
  by_cases h1 : op = 1
  · rw [if_pos h1, if_pos h1]; rfl
  rw [if_neg h1, if_neg h1]
  by_cases h2 : op = 2
  · rw [if_pos h2, if_pos h2]; rfl
  rw [if_neg h2, if_neg h2]
  by_cases h3 : op = 3
  · rw [if_pos h3, if_pos h3]; rfl
  rw [if_neg h3, if_neg h3]
  unfold lay0
  have e : (op == 6 || op == 7 || op == 8 || op == 50 || op == 36 || decide (39 ≤ op ∧ op ≤ 45)) = (op == 6 || op == 7 || op == 8 || op == 50 || op == 36 || op == 39 || op == 40 || op == 41 || op == 42 || op == 43 || op == 44 || op == 45) := by
    rw [Bool.eq_iff_iff]
    simp only [Bool.or_eq_true, beq_iff_eq, decide_eq_true_eq]
    omega
  rw [e]
  by_cases h4 : (op == 6 || op == 7 || op == 8 || op == 50 || op == 36 || op == 39 || op == 40 || op == 41 || op == 42 || op == 43 || op == 44 || op == 45) = true
  · rw [if_pos h4, if_pos h4]
  rw [if_neg h4, if_neg h4]
  unfold lay1
  by_cases h5 : (op == 37 || op == 38) = true
  · rw [if_pos h5, if_pos h5]
  rw [if_neg h5, if_neg h5]
  unfold lay2
  by_cases h6 : (op == 23 || op == 24) = true
  · rw [if_pos h6, if_pos h6]
  rw [if_neg h6, if_neg h6]
  unfold lay3
  by_cases h7 : 11 ≤ op ∧ op ≤ 28
  · have g1 : ¬ (op == 46 || op == 47 || op == 48) = true := by simp only [Bool.or_eq_true, beq_iff_eq]; omega
    rw [if_pos (by simpa using h7), if_neg (show ¬ op = 29 by omega), if_neg g1, if_neg (show ¬ op = 52 by omega), if_neg (show ¬ op = 49 by omega), if_pos h7]
  · have g1 : ¬ decide (11 ≤ op ∧ op ≤ 28) = true := by simpa using h7
    rw [if_neg g1]
    by_cases h8 : op = 29
    · rw [if_pos h8, if_pos h8]
    rw [if_neg h8, if_neg h8]
    by_cases h9 : (op == 46 || op == 47 || op == 48) = true
    · rw [if_pos h9, if_pos h9]
    rw [if_neg h9, if_neg h9]
    by_cases h10 : op = 52
    · rw [if_pos h10, if_pos h10]
    rw [if_neg h10, if_neg h10]
    by_cases h11 : op = 49
    · rw [if_pos h11, if_pos h11]
    rw [if_neg h11, if_neg h11, if_neg h7]
    by_cases h12 : 1 ≤ op ∧ op ≤ 52
    · rw [if_pos (by simpa using h12), if_pos h12]
    · rw [if_neg (by simpa using h12), if_neg h12]

theorem parts_ok (F : Fine H) {op : Int} : FnX Try.prog E w0 38 [.int .u8 op] H fun v H' => ∃ lv, v = .tup [lv, .bool (lay op).isSome] ∧ PartsAt (fun k => H.next ≤ k) H' lv ((lay op).getD []) ∧ Stays H H' := by
  rw [← layR_is]
  refine V38_ok ?_
  unfold V38 layR
  have hX : ∀ k, H.next ≤ k → (fun k => H.next ≤ k) k := fun _ h => h
  simp only [eqv_5, oS, or5, orand5, and5, bld_s, bld_h, condW_bool, beq_iff_eq, beq_eq_false_iff_ne, ne_eq]
  refine ⟨fun h => ?_, fun h1 => ⟨fun h => ?_, fun h2 => ⟨fun h => ?_, fun h3 => ⟨fun h => ?_, fun h4 => ⟨fun h => ?_, fun h5 => ⟨fun h => ?_, fun h6 => ⟨fun h => ?_, fun h7 => ⟨fun h => ?_, fun h8 => ⟨fun h => ?_, fun h9 => ⟨fun h => ?_, fun h10 => ⟨fun h => ?_, fun h11 => ?_⟩⟩⟩⟩⟩⟩⟩⟩⟩⟩⟩
  · rw [if_pos h]; exact one_part F (f := ⟨1, -128, 127⟩) hX fun lv H' hf s => ⟨lv, rfl, hf, s⟩
  all_goals rw [if_neg h1]
  · rw [if_pos h]; exact one_part F (f := ⟨4, -2147483648, 2147483647⟩) hX fun lv H' hf s => ⟨lv, rfl, hf, s⟩
  all_goals rw [if_neg h2]
  · rw [if_pos h]; exact one_part F (f := ⟨8, -9223372036854775808, 9223372036854775807⟩) hX fun lv H' hf s => ⟨lv, rfl, hf, s⟩
  all_goals rw [if_neg h3]
  · rw [if_pos h]
    refine (place_ok F).use ?_
    rintro v H1 ⟨rfl, s1⟩ F1 n1
    exact one_part F1 (fun k hk => by omega) fun lv H' hf s => ⟨lv, rfl, hf, stays_trans s1 s⟩
  all_goals rw [if_neg (by rw [h4]; exact Bool.false_ne_true)]
  · rw [if_pos h]
    refine (place_ok F).use ?_
    rintro v H1 ⟨rfl, s1⟩ F1 n1
    refine (place_ok F1).use ?_
    rintro v H2 ⟨rfl, s2⟩ F2 n2
    exact two_parts F2 (fun k hk => by omega) fun lv H' hf s => ⟨lv, rfl, hf, stays_trans s1 (stays_trans s2 s)⟩
  all_goals rw [if_neg (by rw [h5]; exact Bool.false_ne_true)]
  · rw [if_pos h]
    refine (width_ok F).use ?_
    rintro v H1 ⟨rfl, s1⟩ F1 n1
    exact one_part F1 (fun k hk => by omega) fun lv H' hf s => ⟨lv, rfl, hf, stays_trans s1 s⟩
  all_goals rw [if_neg (by rw [h6]; exact Bool.false_ne_true)]
  · rw [if_pos h]
    refine (width_ok F).use ?_
    rintro v H1 ⟨rfl, s1⟩ F1 n1
    exact one_part F1 (fun k hk => by omega) fun lv H' hf s => ⟨lv, rfl, hf, stays_trans s1 s⟩
  all_goals rw [if_neg (by rw [h7]; exact Bool.false_ne_true)]
  · rw [if_pos h]
    refine (width_ok F).use ?_
    rintro v H1 ⟨rfl, s1⟩ F1 n1
    refine (width_ok F1).use ?_
    rintro v H2 ⟨rfl, s2⟩ F2 n2
    exact two_parts F2 (fun k hk => by omega) fun lv H' hf s => ⟨lv, rfl, hf, stays_trans s1 (stays_trans s2 s)⟩
  all_goals rw [if_neg h8]
  · rw [if_pos h]
    refine (leap_ok F).use ?_
    rintro v H1 ⟨rfl, s1⟩ F1 n1
    exact one_part F1 (fun k hk => by omega) fun lv H' hf s => ⟨lv, rfl, hf, stays_trans s1 s⟩
  all_goals rw [if_neg (by rw [h9]; exact Bool.false_ne_true)]
  · rw [if_pos h]; exact one_part F (f := ⟨1, 0, 255⟩) hX fun lv H' hf s => ⟨lv, rfl, hf, s⟩
  all_goals rw [if_neg h10]
  · rw [if_pos h]
    refine (width_ok F).use ?_
    rintro v H1 ⟨rfl, s1⟩ F1 n1
    exact one_part F1 (fun k hk => by omega) fun lv H' hf s => ⟨lv, rfl, hf, stays_trans s1 s⟩
  rw [if_neg h11]
  by_cases h12 : 1 ≤ op ∧ op ≤ 52
  · rw [if_pos (dT h12), dT h12]
    exact ⟨_, rfl, .inl ⟨rfl, rfl⟩, fun _ _ _ h => h⟩
  · rw [if_neg (by rw [dF h12]; exact Bool.false_ne_true), dF h12]
    exact ⟨_, rfl, .inl ⟨rfl, rfl⟩, fun _ _ _ h => h⟩
end
end Go.Proofs.Ytcboaonbfgjmgaa.op
