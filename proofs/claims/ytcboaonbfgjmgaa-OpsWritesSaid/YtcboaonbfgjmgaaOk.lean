/-
  Instructions that are lent, kept, the same.
-/
import Derived.Test.YtcboaonbfgjmgaaOj
import Derived.Test.YtcboaonbfgjmgaaTyw
open Go.Proofs Go Go.Am
namespace Go.Proofs.Ytcboaonbfgjmgaa.op
open Go.Proofs.Ytcboaonbfgjmgaa.vb Go.Proofs.Ytcboaonbfgjmgaa.vr Go.Proofs.Ytcboaonbfgjmgaa.vw
set_option linter.unusedVariables false
set_option linter.unusedSimpArgs false
set_option maxRecDepth 100000

variable {E : Env} {w0 : World}

def two (p q : Bool) : Option Bool := match some p with
  | some true => (match some q with | some true => some true | r => r)
  | r => r
theorem two_is (p q : Bool) : two p q = some (p && q) := by cases p <;> cases q <;> rfl
theorem nev_49' (x y : Operand) (a b c d : Int) : binV Try.prog .neq 49 x y (.agg [.int .i64 a, .int .i64 b]) (.agg [.int .i64 c, .int .i64 d]) = (two (a == c) (b == d)).map fun r => .bool !r := by kernel_rfl
theorem nev_49 (x y : Operand) (a b c d : Int) : binV Try.prog .neq 49 x y (.agg [.int .i64 a, .int .i64 b]) (.agg [.int .i64 c, .int .i64 d]) = some (.bool (!(a == c && b == d))) := by
  rw [nev_49', two_is]; rfl
theorem cut_22 (H : AHeap) (i : Nat) (len cap : Nat) (ex : Bool) (n : Nat) (h : n ≤ cap) : sliceA Try.prog H 22 (.slc (.new i) 0 len cap ex 2) none (some (.int .i64 (n : Int))) none = some (.slc (.new i) 0 n cap ex 2) := by
  have e : sliceA Try.prog H 22 (.slc (.new i) 0 len cap ex 2) none (some (.int .i64 (n : Int))) none = (boundsA len cap none (some (.int .i64 (n : Int))) none).bind fun r => some (.slc (.new i) (0 + r.1 * 2) (r.2.1 - r.1) (r.2.2 - r.1) (ex || false) 2) := by kernel_rfl
  rw [e]
  simp only [boundsA, topA, highA, lowA, boundA, Option.bind_some]
  rw [if_pos ⟨by omega, by omega⟩]
  simp
theorem bld_24 (op a b : Int) : buildA Try.prog 24 [(0, .int .u8 op), (1, .int .i64 a), (2, .int .i64 b)] = some (.agg [.int .u8 op, .int .i64 a, .int .i64 b, .nilSlc]) := by kernel_rfl
theorem bld_49 (a : Int) : buildA Try.prog 49 [(0, .int .i64 a)] = some (.agg [.int .i64 a, .int .i64 0]) := by kernel_rfl
theorem bs_22 (H : AHeap) (a b : Int) : buildSliceA Try.prog H 22 1 [(0, .agg [.int .i64 a, .int .i64 b])] = some (.slc (.new H.next) 0 1 1 true 2, newCells H [.int .i64 a, .int .i64 b]) := by kernel_rfl
theorem sz_24 {a b c d : AV} : sizeA Try.prog 24 = some (AV.cells (.agg [a, b, c, d])).length := by kernel_rfl
theorem sz_22 : sizeA Try.prog 22 = some 1 := by kernel_rfl

def armsC (arms : List (Int × Int)) : List AV := arms.flatMap armc
theorem armsC_length : ∀ l : List (Int × Int), (armsC l).length = l.length * 2
  | [] => rfl
  | y :: l => by
    have := armsC_length l
    simp only [armsC, List.flatMap_cons, List.length_append, armc, List.length_cons, List.length_nil] at this ⊢
    omega
theorem armsC_scalar (l : List (Int × Int)) : (armsC l).all Am.scalar = true := by
  rw [List.all_eq_true]
  intro x hx
  obtain ⟨y, _, hy⟩ := List.mem_flatMap.1 hx
  simp only [armc, List.mem_cons, List.not_mem_nil, or_false] at hy
  rcases hy with rfl | rfl <;> rfl
theorem armsC_take : ∀ (arms : List (Int × Int)) (l : List AV), (∀ j x, arms[j]? = some x → (l.drop (j * 2)).take 2 = armc x) → l.take (arms.length * 2) = armsC arms
  | [], l, h => by simp [armsC]
  | y :: arms, l, h => by
    have h0 := h 0 y rfl
    have ih := armsC_take arms (l.drop 2) fun j x hj => by
      have := h (j + 1) x (by simpa using hj)
      rw [List.drop_drop]
      rw [show 2 + j * 2 = (j + 1) * 2 by omega]
      exact this
    simp only [Nat.zero_mul, List.drop_zero] at h0
    rw [List.length_cons, show (arms.length + 1) * 2 = 2 + arms.length * 2 by omega, List.take_add, h0, ih]
    rfl
theorem armsC_at {arms : List (Int × Int)} {tl : List AV} {j : Nat} {x : Int × Int} (h : arms[j]? = some x) : ((armsC arms ++ tl).drop (j * 2)).take 2 = armc x := by
  induction arms generalizing j with
  | nil => simp at h
  | cons y arms ih =>
    cases j with
    | zero => simp at h; subst h; rfl
    | succ j =>
      have h' : arms[j]? = some x := by simpa using h
      have := ih h'
      rw [← this, show (j + 1) * 2 = 2 + j * 2 by omega, ← List.drop_drop]
      rfl

section
variable {H H' : AHeap} {X Y : Nat → Prop} {av : AV} {arms : List (Int × Int)}
theorem ArmsAt.first (h : ArmsAt E X H av arms) : lenOfA av = some arms.length ∧ firstA E H 2 arms.length av = some (armsC arms) := by
  rcases h with ⟨rfl, rfl⟩ | ⟨o, i, cap, ex, sz, rfl, ⟨b, cs, rfl, hE, hc⟩ | ⟨k, all, pre, rfl, hx, hg, hc⟩⟩
  · exact ⟨rfl, rfl⟩
  all_goals refine ⟨rfl, ?_⟩
  all_goals unfold firstA
  all_goals simp only [rangeOr]
  all_goals split
  · rename_i hz
    have : arms = [] := List.length_eq_zero_iff.1 (by omega)
    rw [this]; rfl
  · rename_i hz
    have hne : arms ≠ [] := fun e => hz (by rw [e]; rfl)
    have hE := hE.resolve_left hne
    have ht := armsC_take arms (cs.drop i) fun j x hj => by rw [List.drop_drop]; exact hc j x hj
    have hl := congrArg List.length ht
    rw [List.length_take, List.length_drop, armsC_length] at hl
    simp only [loadRange, cellsOf, hE]
    rw [if_pos (by omega), ht]
  · rename_i hz
    have : arms = [] := List.length_eq_zero_iff.1 (by omega)
    rw [this]; rfl
  · rename_i hz
    have ht := armsC_take arms (all.drop i) fun j x hj => by rw [List.drop_drop]; exact hc j x hj
    have hl := congrArg List.length ht
    rw [List.length_take, List.length_drop, armsC_length] at hl
    rw [loadRange_new E hg, if_pos (by omega), ht]

/-- Arms of one's own, with a mark behind. -/
def Lent (X : Nat → Prop) (H : AHeap) (av : AV) (arms : List (Int × Int)) : Prop :=
  ∃ k cap ex pre, av = .slc (.new k) 0 arms.length cap ex 2 ∧ arms.length < cap ∧ H.get k = some (.cells (armsC arms ++ [.int .i64 77, .int .i64 0]) true pre) ∧ X k
theorem Lent.toArms (h : Lent X H av arms) : ArmsAt E X H av arms := by
  obtain ⟨k, cap, ex, pre, e, hc, hg, hx⟩ := h
  refine .inr ⟨.new k, 0, cap, ex, 2, e, .inr ⟨k, _, pre, rfl, hx, hg, fun j x hj => ?_⟩⟩
  rw [Nat.zero_add]
  exact armsC_at hj
theorem Lent.keep (h : Lent X H av arms) (hk : Keeps X H H') : Lent X H' av arms := by
  obtain ⟨k, cap, ex, pre, e, hc, hg, hx⟩ := h
  exact ⟨k, cap, ex, pre, e, hc, hk _ _ _ hx hg, hx⟩
theorem Lent.less (h : Lent X H av arms) (F : Fine H) (hxy : ∀ k, k < H.next → X k → Y k) : Lent Y H av arms := by
  obtain ⟨k, cap, ex, pre, e, hc, hg, hx⟩ := h
  exact ⟨k, cap, ex, pre, e, hc, hg, hxy _ (F.lt hg) hx⟩

/-- An append of arms to none. -/
theorem app_arms (F : Fine H) (h : ArmsAt E X H av arms) (hs : arms.length < 2 ^ 30) : ∃ r H1, appendA Try.prog E H 22 .nilSlc 22 av = some (r, H1) ∧ Fine H1 ∧ Stays H H1 ∧ H.next ≤ H1.next ∧
    ((r = .nilSlc ∧ arms = []) ∨ ∃ pre, r = .slc (.new H.next) 0 arms.length arms.length false 2 ∧ H1.get H.next = some (.cells (armsC arms) true pre)) := by
  have hf := h.first
  rw [app_22_22, hf.1]
  simp only [Option.bind_some, hf.2]
  unfold growA
  rw [if_pos (armsC_length arms)]
  simp only
  by_cases h0 : arms.length = 0
  · rw [if_pos h0]
    exact ⟨_, _, rfl, F, fun _ _ _ h => h, Nat.le_refl _, .inl ⟨rfl, List.length_eq_zero_iff.1 h0⟩⟩
  · rw [if_neg h0, if_pos ⟨by decide, by omega⟩]
    obtain ⟨a, b, c, d⟩ := F.newCells (armsC arms)
    exact ⟨_, _, rfl, d, b, by omega, .inr ⟨[], rfl, a⟩⟩

/-- A mark behind. -/
theorem app_mark (F : Fine H) {r : AV} {k : Nat} (hr : (r = .nilSlc ∧ arms = []) ∨ ∃ pre, r = .slc (.new k) 0 arms.length arms.length false 2 ∧ H.get k = some (.cells (armsC arms) true pre)) (hk : k < H.next) {j : Nat} {pre : List Nat} (hj : H.get j = some (.cells [.int .i64 77, .int .i64 0] true pre)) (hs : arms.length < 2 ^ 30) :
    ∃ H1, appendA Try.prog E H 22 r 22 (.slc (.new j) 0 1 1 true 2) = some (.slc (.new H.next) 0 (arms.length + 1) (arms.length + 1) false 2, H1) ∧ Fine H1 ∧ But k H H1 ∧ H1.next = H.next + 1 ∧ ∃ q, H1.get H.next = some (.cells (armsC arms ++ [.int .i64 77, .int .i64 0]) true q) := by
  have hf : lenOfA (.slc (.new j) 0 1 1 true 2) = some 1 ∧ firstA E H 2 1 (.slc (.new j) 0 1 1 true 2) = some [.int .i64 77, .int .i64 0] := by
    refine ⟨rfl, ?_⟩
    unfold firstA
    simp only [rangeOr, loadRange_new E hj]
    rfl
  rw [app_22_22, hf.1]
  simp only [Option.bind_some, hf.2]
  rcases hr with ⟨rfl, rfl⟩ | ⟨pre', rfl, hg⟩
  · unfold growA
    rw [if_pos (by rfl)]
    simp only
    rw [if_neg (by decide), if_pos ⟨by decide, by decide⟩]
    obtain ⟨a, b, c, d⟩ := F.newCells [AV.int .i64 77, .int .i64 0]
    exact ⟨_, rfl, d, fun i al pr _ h => b i al pr h, c, [], a⟩
  · obtain ⟨H1, q, e1, e2, e3, e4, e5⟩ := F.growN (E := E) (i := 0) (n := arms.length) (cap := arms.length) (sz := 2) (ex := false) hg (by rw [armsC_length]; omega) (bytes := 16) (m := 1) [.int .i64 77, .int .i64 0] (by rfl) (by decide) (by rfl) ⟨by decide, by omega⟩
    refine ⟨H1, e1, e5, e4, e2, q, ?_⟩
    rw [e3, List.drop_zero, ← armsC_length, List.take_length]

theorem store1W {H H2 : AHeap} {t : TypeId} {b n : Nat} {x : AV} {K : AV → AHeap → Prop} (hs : sizeA Try.prog t = some 1) (hx : x.cells = [x]) (h : storeRange H (.new b) n [x] = some H2) (hk : K undefA H2) : storeW Try.prog H t (.ptr (.new b) n) x K := by
  unfold storeW
  simp only [hs, hx, List.length_cons, List.length_nil, Nat.zero_add, if_true, h]
  exact hk

theorem lent_ok (F : Fine H) {x : In} (ho : x.Ok) (hs : x.arms.length < 2 ^ 30) (ha : ArmsAt E All H x.av x.arms) : FnX Try.prog E w0 12 [.agg x.cells] H fun v H' =>
    ∃ av', v = .agg [.int .u8 x.op, .int .i64 x.a, .int .i64 x.b, av'] ∧ Lent (fun k => H.next ≤ k) H' av' x.arms ∧ Stays H H' := by
  refine V12_ok ?_
  unfold V12
  have hcl : AV.cells (.agg x.cells) = x.cells := rfl
  have hz : AV.cells (.agg [(.int .u8 0), (.int .i64 0), (.int .i64 0), .nilSlc]) = [(.int .u8 0), (.int .i64 0), (.int .i64 0), .nilSlc] := rfl
  obtain ⟨a1, a2, a3, F1⟩ := F.newCells x.cells
  rw [wW, hcl, zero_24, oS, wW, hz]
  generalize hH1 : newCells H x.cells = H1 at *
  obtain ⟨b1, b2, b3, F2⟩ := F1.newCells [AV.int .u8 0, .int .i64 0, .int .i64 0, .nilSlc]
  generalize hH2 : newCells H1 [AV.int .u8 0, .int .i64 0, .int .i64 0, .nilSlc] = H2 at *
  have g2 := b2 _ _ _ a1
  obtain ⟨l0, l1, l2, l3, l4⟩ := In.loads (E := E) g2
  simp only [fa_24_0, fa_24_1, fa_24_2, fa_24_3, Nat.zero_add, Nat.add_zero, oS, l0, l1, l2, bld_24, wW, hz]
  obtain ⟨c1, c2, c3, F3⟩ := F2.newCells [AV.int .u8 0, .int .i64 0, .int .i64 0, .nilSlc]
  generalize hH3 : newCells H2 [AV.int .u8 0, .int .i64 0, .int .i64 0, .nilSlc] = H3 at *
  obtain ⟨H4, d1, d2, d3, d4, F4⟩ := F3.stores c1 (n := 0) (vs := [.int .u8 x.op, .int .i64 x.a, .int .i64 x.b, .nilSlc]) (by simp) (by simp) (by rfl)
  rw [setMany_all (by rfl)] at d2
  refine storesW sz_24 d1 ?_
  have s24 : Stays H2 H4 := fun k all pre hk => d3 _ _ _ (by have := F2.lt hk; omega) (c2 _ _ _ hk)
  have s04 : Stays H H4 := stays_trans a2 (stays_trans b2 s24)
  have g4 := s24 _ _ _ g2
  have p4 : loadV Try.prog E H4 22 (.ptr (.new H2.next) 3) = some .nilSlc := by rw [ld_22, loadCell_new E d2]; rfl
  simp only [p4, oS, (In.loads (E := E) g4).2.2.2.1]
  obtain ⟨r5, H5, e5, F5, s5, n5, hr5⟩ := app_arms F4 (ha.keep (Keeps.of s04)) hs
  rw [e5, o2S]
  have d5 := s5 _ _ _ d2
  obtain ⟨hrs, hrc⟩ : Am.scalar r5 = true ∧ r5.cells = [r5] := by rcases hr5 with ⟨rfl, _⟩ | ⟨pre, rfl, _⟩ <;> exact ⟨rfl, rfl⟩
  obtain ⟨H6, f1, f2, f3, f4, F6⟩ := F5.store d5 (n := 3) (x := r5) (by simp) hrs
  refine store1W sz_22 hrc f1 ?_
  have f2 : H6.get H2.next = some (.cells [.int .u8 x.op, .int .i64 x.a, .int .i64 x.b, r5] true []) := f2
  have p6 : loadV Try.prog E H6 22 (.ptr (.new H2.next) 3) = some r5 := by rw [ld_22, loadCell_new E f2]; rfl
  simp only [p6, oS, bld_49, bs_22, o2S]
  have hr6 : (r5 = .nilSlc ∧ x.arms = []) ∨ ∃ pre, r5 = .slc (.new H4.next) 0 x.arms.length x.arms.length false 2 ∧ H6.get H4.next = some (.cells (armsC x.arms) true pre) := by
    rcases hr5 with h | ⟨pre, e, g⟩
    · exact .inl h
    · exact .inr ⟨pre, e, f3 _ _ _ (by omega) g⟩
  obtain ⟨h1, h2, h3, F7⟩ := F6.newCells [AV.int .i64 77, .int .i64 0]
  generalize hH7 : newCells H6 [AV.int .i64 77, .int .i64 0] = H7 at *
  have hr7 : (r5 = .nilSlc ∧ x.arms = []) ∨ ∃ pre, r5 = .slc (.new H4.next) 0 x.arms.length x.arms.length false 2 ∧ H7.get H4.next = some (.cells (armsC x.arms) true pre) := by
    rcases hr6 with h | ⟨pre, e, g⟩
    · exact .inl h
    · exact .inr ⟨pre, e, h2 _ _ _ g⟩
  obtain ⟨H8, e8, F8, but8, n8, q8, g8⟩ := app_mark (E := E) F7 hr7 (by omega) h1 hs
  rw [e8, o2S]
  have f8 := but8 _ _ _ (show H2.next ≠ H4.next by omega) (h2 _ _ _ f2)
  obtain ⟨H9, i1, i2, i3, i4, F9⟩ := F8.store f8 (n := 3) (x := .slc (.new H7.next) 0 (x.arms.length + 1) (x.arms.length + 1) false 2) (by simp) rfl
  refine store1W sz_22 rfl i1 ?_
  have s49 : ∀ {j al pr}, j < H2.next → H4.get j = some (.cells al true pr) → H9.get j = some (.cells al true pr) := fun {j al pr} hj hg =>
    i3 _ _ _ (by omega) (but8 _ _ _ (by omega) (h2 _ _ _ (f3 _ _ _ (by omega) (s5 _ _ _ hg))))
  have g9 : H9.get H.next = some (.cells x.cells true []) := s49 (by omega) g4
  have i2 : H9.get H2.next = some (.cells [.int .u8 x.op, .int .i64 x.a, .int .i64 x.b, .slc (.new H7.next) 0 (x.arms.length + 1) (x.arms.length + 1) false 2] true []) := i2
  have p9 : loadV Try.prog E H9 22 (.ptr (.new H2.next) 3) = some (.slc (.new H7.next) 0 (x.arms.length + 1) (x.arms.length + 1) false 2) := by rw [ld_22, loadCell_new E i2]; rfl
  simp only [p9, oS, (In.loads (E := E) g9).2.2.2.1, ha.len, cut_22 H9 H7.next (x.arms.length + 1) (x.arms.length + 1) false x.arms.length (by omega)]
  obtain ⟨H10, j1, j2, j3, j4, F10⟩ := F9.store i2 (n := 3) (x := .slc (.new H7.next) 0 x.arms.length (x.arms.length + 1) false 2) (by simp) rfl
  refine store1W sz_22 rfl j1 ?_
  have j2 : H10.get H2.next = some (.cells [.int .u8 x.op, .int .i64 x.a, .int .i64 x.b, .slc (.new H7.next) 0 x.arms.length (x.arms.length + 1) false 2] true []) := j2
  rw [ld_24, loadRange_new E j2, if_pos (by simp)]
  have ht : List.take 4 (List.drop 0 [AV.int .u8 x.op, .int .i64 x.a, .int .i64 x.b, .slc (.new H7.next) 0 x.arms.length (x.arms.length + 1) false 2]) = [AV.int .u8 x.op, .int .i64 x.a, .int .i64 x.b, .slc (.new H7.next) 0 x.arms.length (x.arms.length + 1) false 2] := rfl
  rw [ht, Option.bind_some, oS]
  have b10 : H10.get H1.next = some (.cells [.int .u8 0, .int .i64 0, .int .i64 0, .nilSlc] true []) := j3 _ _ _ (by omega) (s49 (by omega) (s24 _ _ _ b1))
  obtain ⟨H11, k1, k2, k3, k4, F11⟩ := F10.stores b10 (n := 0) (vs := [AV.int .u8 x.op, .int .i64 x.a, .int .i64 x.b, .slc (.new H7.next) 0 x.arms.length (x.arms.length + 1) false 2]) (by simp) (by simp) (by rfl)
  rw [setMany_all (by rfl)] at k2
  refine storesW sz_24 k1 ?_
  show optW (loadVarA Try.prog E H11 24 (.new H1.next) 0) _
  rw [lv_24, loadRange_new E k2, if_pos (by simp), ht, Option.bind_some, oS]
  refine ⟨_, rfl, ⟨H7.next, x.arms.length + 1, false, q8, rfl, by omega, ?_, by omega⟩, fun j al pr hj => ?_⟩
  · exact k3 _ _ _ (by omega) (j3 _ _ _ (by omega) (i3 _ _ _ (by omega) g8))
  · have := F.lt hj
    exact k3 _ _ _ (by omega) (j3 _ _ _ (by omega) (s49 (by omega) (s04 _ _ _ hj)))

theorem same_ok (F : Fine H) {x y : In} (ho : x.Ok) (ha : ArmsAt E All H x.av x.arms) (hb : ArmsAt E All H y.av y.arms) (h1 : x.op = y.op) (h2 : x.a = y.a) (h3 : x.b = y.b) (h4 : x.arms = y.arms) : FnX Try.prog E w0 21 [.agg x.cells, .agg y.cells] H fun v H' => v = .bool true ∧ Stays H H' := by
  refine V21_ok ?_
  unfold V21
  have hcl : ∀ x : In, AV.cells (.agg x.cells) = x.cells := fun _ => rfl
  obtain ⟨a1, a2, a3, F1⟩ := F.newCells x.cells
  rw [wW, hcl, wW, hcl]
  generalize hH1 : newCells H x.cells = H1 at *
  obtain ⟨b1, b2, b3, F2⟩ := F1.newCells y.cells
  generalize hH2 : newCells H1 y.cells = H2 at *
  have g2 := b2 _ _ _ a1
  have s02 := stays_trans a2 b2
  obtain ⟨l0, l1, l2, l3, l4⟩ := In.loads (E := E) g2
  obtain ⟨m0, m1, m2, m3, m4⟩ := In.loads (E := E) b1
  have hsh := ho.short
  simp only [fa_24_0, fa_24_1, fa_24_2, fa_24_3, Nat.zero_add, Nat.add_zero, oS, l0, l1, l2, l3, m0, m1, m2, m3, ha.len, hb.len, h1, h2, h3, h4, nev_5, nev_2, nev_3, bne_self_eq_false, wB, bff, vT, pB, Bool.false_eq_true, if_false, cF]
  refine loop21_0 (I := fun n t2 t3 t5 H' => t2 = .ptr (.new H.next) 0 ∧ t3 = .ptr (.new H1.next) 0 ∧ H' = H2 ∧ ∃ i : Nat, t5 = .int .i64 (i : Int) ∧ i + n = x.arms.length) ?_ (n := x.arms.length) ⟨rfl, rfl, rfl, 0, rfl, by omega⟩
  rintro n _ _ _ H3 ⟨rfl, rfl, rfl, i, rfl, hi⟩
  intros
  unfold B21_0
  simp only [fa_24_3, Nat.zero_add, oS, l3, m3, ha.len, bin_lss]
  rw [condW_bool]
  refine ⟨fun hlt => ?_, fun hge => ⟨by trivial, s02⟩⟩
  have hlt : i < x.arms.length := by have := of_decide_eq_true hlt; omega
  obtain ⟨z, hz⟩ : ∃ z, z = x.arms[i] := ⟨_, rfl⟩
  have hzj : x.arms[i]? = some z := by rw [hz]; exact List.getElem?_eq_getElem hlt
  have hzj' : y.arms[i]? = some z := by rw [← h4]; exact hzj
  obtain ⟨o, q, e1, e2, _, _⟩ := (ha.keep (Keeps.of s02)).at hzj
  obtain ⟨o', q', e1', e2', _, _⟩ := (hb.keep (Keeps.of s02)).at hzj'
  have e2 : loadV Try.prog E H3 49 (.ptr o q) = some (.agg [.int .i64 z.1, .int .i64 z.2]) := by rw [ld_49, e2]; rfl
  have e2' : loadV Try.prog E H3 49 (.ptr o' q') = some (.agg [.int .i64 z.1, .int .i64 z.2]) := by rw [ld_49, e2']; rfl
  simp only [true_and, and_true, e1, e1', e2, e2', oS, nev_49, beq_self_eq_true, Bool.and_self, Bool.not_true, cF, bin_add]
  rw [wrap_i64 (by omega) (by omega)]
  exact ⟨n - 1, by omega, rfl, rfl, rfl, rfl, i + 1, by simp, by omega⟩

theorem kept_ok (F : Fine H) {x y : In} (ho : x.Ok) (hl : Lent All H x.av x.arms) (hb : ArmsAt E All H y.av y.arms) (h1 : x.op = y.op) (h2 : x.a = y.a) (h3 : x.b = y.b) (h4 : x.arms = y.arms) : FnX Try.prog E w0 19 [.agg x.cells, .agg y.cells] H fun v H' => v = .bool true ∧ Stays H H' := by
  refine V19_ok ?_
  unfold V19
  have hcl : ∀ x : In, AV.cells (.agg x.cells) = x.cells := fun _ => rfl
  obtain ⟨a1, a2, a3, F1⟩ := F.newCells x.cells
  rw [wW, hcl, wW, hcl]
  generalize hH1 : newCells H x.cells = H1 at *
  obtain ⟨b1, b2, b3, F2⟩ := F1.newCells y.cells
  generalize hH2 : newCells H1 y.cells = H2 at *
  have g2 := b2 _ _ _ a1
  have s02 := stays_trans a2 b2
  simp only [(In.loads (E := E) g2).2.2.2.2, (In.loads (E := E) b1).2.2.2.2, oS, true_and]
  refine (same_ok F2 ho (hl.toArms.keep (Keeps.of s02)) (hb.keep (Keeps.of s02)) h1 h2 h3 h4).use ?_
  rintro v H3 ⟨rfl, s3⟩ F3 n3
  have s03 := stays_trans s02 s3
  have hsh := ho.short
  obtain ⟨k, cap, ex, pre, e, hc, hg, _⟩ := hl.keep (Keeps.of s03)
  have len : ∀ H2, lenV Try.prog H2 22 y.av = some (.int .i64 x.arms.length) := fun H2 => by rw [h4]; exact hb.len H2
  simp only [wB, btt, vT, fa_24_3, Nat.zero_add, (In.loads (E := E) (s3 _ _ _ g2)).2.2.2.1, (In.loads (E := E) (s3 _ _ _ b1)).2.2.2.1, oS, true_and, len, bin_add, e]
  have hw : IntKind.i64.wrap ((x.arms.length : Int) + 1) = ((x.arms.length + 1 : Nat) : Int) := by rw [wrap_i64 (by omega) (by omega)]; simp
  rw [hw, cut_22 H3 k x.arms.length cap ex (x.arms.length + 1) (by omega), oS]
  have hx : loadV Try.prog E H3 2 (.ptr (.new k) (x.arms.length * 2)) = some (.int .i64 77) := by
    rw [ld_2, loadCell_new E hg, List.getElem?_append_right (by rw [armsC_length]; omega), armsC_length, Nat.sub_self]
    rfl
  rw [ix_22, if_pos ⟨by omega, by omega⟩]
  simp only [oS, fa_49_0, Nat.zero_add, Nat.add_zero, Int.toNat_natCast, hx, eqv_2, beq_self_eq_true, pB, if_true, true_and]
  exact s03
end
end Go.Proofs.Ytcboaonbfgjmgaa.op
