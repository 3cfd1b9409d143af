/-
  Instructions: arms, Encode, Size.
-/
import Derived.Test.YtcboaonbfgjmgaaOc
open Go.Proofs Go Go.Am
namespace Go.Proofs.Ytcboaonbfgjmgaa.op
open Go.Proofs.Ytcboaonbfgjmgaa.vb
set_option linter.unusedVariables false
set_option linter.unusedSimpArgs false
set_option maxRecDepth 100000

variable {E : Env} {w0 : World}

/-- An arm's cells. -/
def armc (x : Int × Int) : List AV := [.int .i64 x.1, .int .i64 x.2]
/-- A slice of arms. -/
def ArmsAt (E : Env) (X : Nat → Prop) (H : AHeap) (av : AV) (arms : List (Int × Int)) : Prop :=
  (av = .nilSlc ∧ arms = []) ∨ ∃ o i cap ex sz, av = .slc o i arms.length cap ex sz ∧
    ((∃ b cs, o = .old b ∧ (arms = [] ∨ E b = some cs) ∧ ∀ j x, arms[j]? = some x → (cs.drop (i + j * 2)).take 2 = armc x) ∨ (∃ k all pre, o = .new k ∧ X k ∧ H.get k = some (.cells all true pre) ∧ ∀ j x, arms[j]? = some x → (all.drop (i + j * 2)).take 2 = armc x))
section
variable {H H' : AHeap} {X Y : Nat → Prop} {av : AV} {arms : List (Int × Int)}
theorem ArmsAt.keep (h : ArmsAt E X H av arms) (hk : Keeps X H H') : ArmsAt E X H' av arms := by
  rcases h with h | ⟨o, i, cap, ex, sz, e, h | ⟨k, all, pre, a, b, c, d⟩⟩
  · exact .inl h
  · exact .inr ⟨o, i, cap, ex, sz, e, .inl h⟩
  · exact .inr ⟨o, i, cap, ex, sz, e, .inr ⟨k, all, pre, a, b, hk _ _ _ b c, d⟩⟩
theorem ArmsAt.less (h : ArmsAt E X H av arms) (F : Fine H) (hxy : ∀ k, k < H.next → X k → Y k) : ArmsAt E Y H av arms := by
  rcases h with h | ⟨o, i, cap, ex, sz, e, h | ⟨k, all, pre, a, b, c, d⟩⟩
  · exact .inl h
  · exact .inr ⟨o, i, cap, ex, sz, e, .inl h⟩
  · exact .inr ⟨o, i, cap, ex, sz, e, .inr ⟨k, all, pre, a, hxy _ (F.lt c) b, c, d⟩⟩
theorem ArmsAt.len (h : ArmsAt E X H av arms) (H2 : AHeap) : lenV Try.prog H2 22 av = some (.int .i64 arms.length) := by
  rcases h with ⟨rfl, rfl⟩ | ⟨o, i, cap, ex, sz, rfl, _⟩
  · exact len0_22 _
  · exact len_22 ..
theorem take2 {l : List AV} {i : Nat} {x : Int × Int} (h : (l.drop i).take 2 = armc x) : i + 2 ≤ l.length ∧ l[i]? = some (.int .i64 x.1) ∧ l[i + 1]? = some (.int .i64 x.2) := by
  have hl := congrArg List.length h
  simp only [List.length_take, List.length_drop, armc, List.length_cons, List.length_nil] at hl
  have a := congrArg (fun l => l[0]?) h
  have b := congrArg (fun l => l[1]?) h
  simp [armc] at a b
  exact ⟨by omega, a, b⟩
theorem ArmsAt.at (h : ArmsAt E X H av arms) {j : Nat} {x : Int × Int} (hj : arms[j]? = some x) : ∃ o i, indexAtA Try.prog 22 av (.int .i64 (j : Int)) = some (.ptr o i) ∧ loadRange E H o i 2 = some (armc x) ∧ loadCell E H o i = some (.int .i64 x.1) ∧ loadCell E H o (i + 1) = some (.int .i64 x.2) := by
  have hlt : j < arms.length := (List.getElem?_eq_some_iff.1 hj).1
  rcases h with ⟨rfl, rfl⟩ | ⟨o, i, cap, ex, sz, rfl, ⟨b, cs, rfl, hE, hc⟩ | ⟨k, all, pre, rfl, hx, hg, hc⟩⟩
  · simp at hj
  · have hE : E b = some cs := hE.resolve_left (fun e => by rw [e] at hlt; simp at hlt)
    obtain ⟨t1, t2, t3⟩ := take2 (hc j x hj)
    refine ⟨.old b, i + j * 2, ?_, ?_, ?_, ?_⟩
    · rw [ix_22, if_pos ⟨by omega, by omega⟩]; simp
    · simp only [loadRange, cellsOf, hE]
      rw [if_pos (by omega), hc j x hj]
    · simp only [loadCell, cellsOf, hE]; exact t2
    · simp only [loadCell, cellsOf, hE]; exact t3
  · obtain ⟨t1, t2, t3⟩ := take2 (hc j x hj)
    refine ⟨.new k, i + j * 2, ?_, ?_, ?_, ?_⟩
    · rw [ix_22, if_pos ⟨by omega, by omega⟩]; simp
    · rw [loadRange_new E hg, if_pos (by omega), hc j x hj]
    · rw [loadCell_new E hg]; exact t2
    · rw [loadCell_new E hg]; exact t3
end

/-- An instruction. -/
structure In where
  op : Int
  a : Int
  b : Int
  av : AV
  arms : List (Int × Int)
def In.cells (x : In) : List AV := [.int .u8 x.op, .int .i64 x.a, .int .i64 x.b, x.av]
structure In.Ok (x : In) : Prop where
  op : 0 ≤ x.op ∧ x.op ≤ 255
  a : I64 x.a
  b : I64 x.b
  arms : ∀ y ∈ x.arms, I64 y.1 ∧ I64 y.2
  short : x.arms.length < 2 ^ 44

def Fd.may (f : Fd) (n : Int) : Bool := decide (f.lo ≤ n ∧ n ≤ f.hi)
def In.num (x : In) (i : Nat) : Int := if i = 1 then x.b else x.a
def fldB (x : In) : Nat → List Fd → List Int
  | _, [] => []
  | i, f :: l => fixS (x.num i) f.size ++ fldB x (i + 1) l
def fldOk (x : In) : Nat → List Fd → Bool
  | _, [] => true
  | i, f :: l => f.may (x.num i) && fldOk x (i + 1) l
def armB (y : Int × Int) : List Int := fixS y.1 8 ++ fixS y.2 4
def armOk (w : Int) (y : Int × Int) : Bool := decide (fitLo w ≤ y.1 ∧ y.1 ≤ fitHi w) && decide (0 ≤ y.2 ∧ y.2 ≤ 4294967295)
/-- Is it an instruction? -/
def isS (x : In) : Bool :=
  (lay x.op).isSome && fldOk x 0 ((lay x.op).getD []) &&
    if x.op = 49 then decide (x.arms.length ≤ 65535) && x.arms.all (armOk (IntKind.u8.wrap x.a)) && decide (0 ≤ x.b ∧ x.b ≤ 4294967295)
    else decide (x.arms.length = 0) && (decide (2 ≤ ((lay x.op).getD []).length) || decide (x.b = 0)) && (decide (1 ≤ ((lay x.op).getD []).length) || decide (x.a = 0))
def armsB (arms : List (Int × Int)) : List Int := arms.flatMap armB
/-- Its bytes. -/
def encB (x : In) : List Int := x.op :: fldB x 0 ((lay x.op).getD []) ++ if x.op = 49 then fixS x.arms.length 2 ++ armsB x.arms ++ fixS x.b 4 else []

def goodLay (l : Option (List Fd)) : Bool := (l.getD []).all (fun f => decide (1 ≤ f.size ∧ f.size ≤ 8)) && decide ((l.getD []).length ≤ 2)
theorem good_ite {c : Prop} [Decidable c] {a b : Option (List Fd)} (ha : goodLay a = true) (hb : goodLay b = true) : goodLay (if c then a else b) = true := by
  by_cases h : c
  · rw [if_pos h]; exact ha
  · rw [if_neg h]; exact hb
theorem lay_good (op : Int) : goodLay (lay op) = true := by
  unfold lay lay0 lay1 lay2 lay3
  repeat' apply good_ite
  all_goals rfl
theorem lay_size {op : Int} : ∀ f ∈ (lay op).getD [], 1 ≤ f.size ∧ f.size ≤ 8 := by
  have h := lay_good op
  simp only [goodLay, Bool.and_eq_true, List.all_eq_true, decide_eq_true_eq] at h
  exact h.1
theorem lay_length {op : Int} : ((lay op).getD []).length ≤ 2 := by
  have h := lay_good op
  simp only [goodLay, Bool.and_eq_true, List.all_eq_true, decide_eq_true_eq] at h
  exact h.2
theorem lay_switch : lay 49 = some [fWid] := rfl

theorem armsB_length : ∀ l : List (Int × Int), (armsB l).length = 12 * l.length
  | [] => rfl
  | y :: l => by
    have := armsB_length l
    simp only [armsB, List.flatMap_cons, List.length_append, armB, fixS_length, List.length_cons] at this ⊢
    omega

theorem zero49 : AV.cells (.agg [.int .i64 0, .int .i64 0]) = [.int .i64 0, .int .i64 0] := rfl
theorem zero81 : AV.cells (.agg [.int .i64 0, .nilFn]) = [.int .i64 0, .nilFn] := rfl
theorem sz_49 {a b : AV} : sizeA Try.prog 49 = some (AV.cells (.agg [a, b])).length := by kernel_rfl

section
variable {H H' H1 : AHeap} {X Y : Nat → Prop} {bs : List Int} {v b : AV} {k : Nat}

theorem BoxAt.keep {f : Fd} {q : Nat} (h : BoxAt X H q f) (hk : Keeps X H H') (hq : X q) : BoxAt X H' q f := by
  obtain ⟨fv, pre, g, m⟩ := h
  exact ⟨fv, pre, hk _ _ _ hq g, m.keep hk⟩
theorem BoxAt.less {f : Fd} {q : Nat} (h : BoxAt X H q f) (F : Fine H) (hxy : ∀ k, k < H.next → X k → Y k) : BoxAt Y H q f := by
  obtain ⟨fv, pre, g, m⟩ := h
  exact ⟨fv, pre, g, m.less F hxy⟩

/-- A new box for a field. -/
theorem box_new (F : Fine H) {s : Nat} {fv : AV} {lo hi : Int} (m : MayAt X H fv lo hi) {K : AV → AHeap → Prop} (hK : ∀ H', Fine H' → Stays H H' → H'.next = H.next + 1 → BoxAt X H' H.next ⟨s, lo, hi⟩ → K (.ptr (.new H.next) 0) H') :
    optW (zeroOf Try.prog 81) fun z => withW (.ptr (.new H.next) 0) (newCells H (AV.cells z)) fun p H1 => storeW Try.prog H1 81 p (.agg [.int .i64 (s : Int), fv]) fun _ H2 => K p H2 := by
  rw [zero_81, oS, wW, zero81]
  obtain ⟨a1, a2, a3, F1⟩ := F.newCells [AV.int .i64 0, .nilFn]
  obtain ⟨H2, c1, c2, c3, c4, F2⟩ := F1.stores a1 (n := 0) (vs := [.int .i64 (s : Int), fv]) (by simp) (by simp) (two_scalar m.scalar)
  rw [setMany_all (by rfl)] at c2
  refine storesW sz_81 c1 ?_
  have s2 : Stays H H2 := fun k all pre hk => c3 _ _ _ (by have := F.lt hk; omega) (a2 _ _ _ hk)
  exact hK H2 F2 s2 (by omega) ⟨fv, _, c2, m.keep (Keeps.of s2)⟩

theorem arms_ok (F : Fine H) {x : In} (ho : x.Ok) (h : Bs H b bs k) (h0 : bs ≠ []) (hl : bs.length < 2 ^ 30) (ha : ArmsAt E (fun j => j ≠ k) H x.av x.arms) :
    FnX Try.prog E w0 43 [b, .agg x.cells] H fun v H' => Keeps (fun j => j ≠ k) H H' ∧ if x.arms.length ≤ 65535 then
      ∃ r k', v = .tup [r, .bool (x.arms.all (armOk (IntKind.u8.wrap x.a)) && decide (0 ≤ x.b ∧ x.b ≤ 4294967295))] ∧ Bs H' r (bs ++ (fixS x.arms.length 2 ++ armsB x.arms ++ fixS x.b 4)) k' ∧ H.next ≤ k'
      else v = .tup [.nilSlc, .bool false] := by
  refine V43_ok ?_
  unfold V43
  have hk := h.lt F h0
  have hcl : AV.cells (.agg x.cells) = x.cells := rfl
  obtain ⟨a1, a2, a3, F1⟩ := F.newCells x.cells
  rw [wW, hcl]
  generalize hH1 : newCells H x.cells = H1 at *
  refine (between_ok F1).use ?_
  rintro v2 H2 ⟨m2, s2⟩ F2 n2
  rw [build_81 m2, oS]
  refine box_new F2 (s := 4) m2 fun H3 F3 s3 n3 b3 => ?_
  have s03 : Stays H H3 := stays_trans a2 (stays_trans s2 s3)
  have cells : ∀ {H' : AHeap}, H'.get H.next = some (.cells x.cells true []) → loadV Try.prog E H' 2 (.ptr (.new H.next) 1) = some (.int .i64 x.a) ∧ loadV Try.prog E H' 2 (.ptr (.new H.next) 2) = some (.int .i64 x.b) ∧ loadV Try.prog E H' 22 (.ptr (.new H.next) 3) = some x.av := fun hg =>
    ⟨by rw [ld_2, loadCell_new E hg]; rfl, by rw [ld_2, loadCell_new E hg]; rfl, by rw [ld_22, loadCell_new E hg]; rfl⟩
  have g3 : H3.get H.next = some (.cells x.cells true []) := s3 _ _ _ (s2 _ _ _ a1)
  simp only [fa_24_1, fa_24_2, fa_24_3, oS, Nat.zero_add, (cells g3).1, cv_2_5]
  refine (fitsF_ok F3).use ?_
  rintro v4 H4 ⟨m4, s4⟩ F4 n4
  rw [build_81 m4, oS]
  refine box_new F4 (s := 8) m4 fun H5 F5 s5 n5 b5 => ?_
  have s35 : Stays H3 H5 := stays_trans s4 s5
  have s05 : Stays H H5 := stays_trans s03 s35
  have g5 : H5.get H.next = some (.cells x.cells true []) := s35 _ _ _ g3
  simp only [fa_24_3, oS, Nat.zero_add, (cells g5).2.2, ha.len, bin_gtr]
  by_cases hlen : (x.arms.length : Int) > 65535
  · simp only [dT hlen, cT]
    rw [if_neg (by omega)]
    exact ⟨Keeps.of s05, by trivial⟩
  have hlen' : x.arms.length ≤ 65535 := by omega
  simp only [dF hlen, cF, cv_3_114, oS, hlen', if_true]
  rw [wrap_u64 (by omega) (by omega)]
  refine (fixed_ok F5 (s := 2) (by omega) (by omega) (by omega)).use ?_
  rintro v6 H6 ⟨j6, p6, rfl, e6, g6, s6⟩ F6 n6
  have s06 : Stays H H6 := stays_trans s05 s6
  have hfm := first_of (E := E) (cap := 2) (ex := true) (ms := fixS x.arms.length 2) g6
  rw [fixS_length] at hfm
  have hne : fixS (x.arms.length : Int) 2 ≠ [] := fun e => by have := fixS_length (x.arms.length : Int) 2; rw [e] at this; simp at this
  refine (put_ok F6 (h.keep fun all pre hg => s06 _ _ _ hg) (ms := fixS x.arms.length 2) (by rw [fixS_length]; exact hfm) hne (by rw [fixS_length]; omega)).use ?_
  rintro v7 H7 ⟨B7, k7⟩ F7 n7
  -- what stays from H5 on
  obtain ⟨X6, hX6⟩ : ∃ X6 : Nat → Prop, X6 = fun j => j ≠ k ∧ j < H5.next := ⟨_, rfl⟩
  have x6 : ∀ j, X6 j ↔ j ≠ k ∧ j < H5.next := fun j => by rw [hX6]
  have k57 : Keeps X6 H5 H7 := Keeps.trans (Keeps.of s6) k7 F5 fun j _ hj => ((x6 j).1 hj).1
  have xh : X6 H.next := (x6 _).2 ⟨by omega, by omega⟩
  have xl : X6 H2.next := (x6 _).2 ⟨by omega, by omega⟩
  have xw : X6 H4.next := (x6 _).2 ⟨by omega, by omega⟩
  have g7 : H7.get H.next = some (.cells x.cells true []) := k57 _ _ _ xh g5
  simp only [fa_24_3, oS, Nat.zero_add, (cells g7).2.2, ha.len]
  have L7 : BoxAt X6 H7 H2.next fLeap := ((b3.less F3 fun j hj (h : H1.next ≤ j) => (x6 j).2 ⟨by omega, by omega⟩).keep (Keeps.of s35) xl).keep k57 xl
  have W7 : BoxAt X6 H7 H4.next ⟨8, fitLo (IntKind.u8.wrap x.a), fitHi (IntKind.u8.wrap x.a)⟩ := (b5.less F5 fun j hj (h : H3.next ≤ j) => (x6 j).2 ⟨by omega, by omega⟩).keep k57 xw
  have A7 : ArmsAt E X6 H7 x.av x.arms := ((ha.less F fun j hj h => (x6 j).2 ⟨h, by omega⟩).keep (Keeps.of s05)).keep k57
  have K07 : Keeps (fun j => j ≠ k) H H7 := Keeps.trans (Keeps.of s05) k57 F fun j hj h => (x6 j).2 ⟨h, by omega⟩
  refine loop43_0 (I := fun n t0 t3 t6 t7 t8 t33 t34 t35 H' => t3 = .ptr (.new H.next) 0 ∧ t6 = .ptr (.new H2.next) 0 ∧ t7 = .ptr (.new H4.next) 0 ∧ x.av = t33 ∧ t34 = .int .i64 (x.arms.length : Int) ∧
      ∃ (i k' : Nat) (done : List Int) (ok : Bool), t35 = .int .i64 (i : Int) ∧ i + n = x.arms.length ∧ t8 = .bool ok ∧ Fine H' ∧ H7.next ≤ H'.next ∧ Bs H' t0 (bs ++ fixS x.arms.length 2 ++ done) k' ∧ H6.next ≤ k' ∧ done.length = 12 * i ∧ done ++ armsB (x.arms.drop i) = armsB x.arms ∧
        (ok && (x.arms.drop i).all (armOk (IntKind.u8.wrap x.a))) = x.arms.all (armOk (IntKind.u8.wrap x.a)) ∧ Keeps X6 H7 H') ?_ (n := x.arms.length)
    ⟨rfl, rfl, rfl, rfl, rfl, 0, H6.next, [], true, rfl, by omega, rfl, F7, Nat.le_refl _, by simpa using B7, Nat.le_refl _, rfl, rfl, by simp, Keeps.refl⟩
  rintro n t0 _ _ _ _ _ _ _ H8 ⟨rfl, rfl, rfl, rfl, rfl, i, k8, done, ok, rfl, hi, rfl, F8, n8, B8, hk8, hd, hdone, hok, K8⟩
  intros
  unfold B43_0
  have x68 : ∀ {q : Nat}, H6.next ≤ q → ∀ j, X6 j → j ≠ q := fun hq j hj => by have := ((x6 j).1 hj).2; omega
  have hne8 : bs ++ fixS x.arms.length 2 ++ done ≠ [] := fun e => by have := congrArg List.length e; rw [List.length_append, List.length_append, fixS_length] at this; simp at this
  have hk8lt := B8.lt F8 hne8
  rw [bin_lss, oS, condW_bool]
  refine ⟨fun hlt => ?_, fun hge => ?_⟩
  · have hlt : i < x.arms.length := by have := of_decide_eq_true hlt; omega
    obtain ⟨o, q, e1, e2, e3, e4⟩ := (A7.keep K8).at (List.getElem?_eq_getElem hlt)
    have e2 : loadV Try.prog E H8 49 (.ptr o q) = some (.agg (armc x.arms[i])) := by rw [ld_49, e2]; rfl
    rw [e1, oS, e2, oS, zero_49, oS, wW, zero49]
    obtain ⟨y, hy⟩ : ∃ y, y = x.arms[i] := ⟨_, rfl⟩
    rw [← hy]
    have hyr := ho.arms y (by rw [hy]; exact List.getElem_mem _)
    obtain ⟨a1, a2, a3, F9⟩ := F8.newCells [AV.int .i64 0, .int .i64 0]
    obtain ⟨H10, c1, c2, c3, c4, F10⟩ := F9.stores a1 (n := 0) (vs := armc y) (by simp [armc]) (by simp [armc]) (by rfl)
    rw [setMany_all (by rfl)] at c2
    refine storesW sz_49 c1 ?_
    have s10 : Stays H8 H10 := fun k all pre hk => c3 _ _ _ (by have := F8.lt hk; omega) (a2 _ _ _ hk)
    have K10 : Keeps X6 H7 H10 := Keeps.trans K8 (Keeps.of s10) F7 (fun _ _ h => h)
    obtain ⟨wv, w1, w2⟩ := (W7.keep K10 xw).load (E := E)
    have y0 : loadV Try.prog E H10 2 (.ptr (.new H8.next) 0) = some (.int .i64 y.1) := by rw [ld_2, loadCell_new E c2]; rfl
    rw [w1, oS, fa_49_0, oS, Nat.zero_add, y0, oS]
    have hbl : (bs ++ fixS x.arms.length 2 ++ done).length < 2 ^ 32 := by rw [List.length_append, List.length_append, fixS_length]; omega
    refine (number_ok F10 (B8.keep fun all pre hg => s10 _ _ _ hg) hne8 (w2.less F10 fun j _ hj => x68 hk8 j hj) hyr.1 (s := 8) (by omega) (by omega) (by omega)).use ?_
    rintro v11 H11 ⟨r11, k11, rfl, B11, hk11, K11⟩ F11 n11
    simp only [ex0, ex1, oS]
    have K11' : Keeps X6 H7 H11 := Keeps.trans K10 K11 F7 (fun j _ hj => x68 hk8 j hj)
    obtain ⟨lv, l1, l2⟩ := (L7.keep K11' xl).load (E := E)
    have c2' : H11.get H8.next = some (.cells (armc y) true []) := K11 _ _ _ (by simp only; omega) c2
    have y1 : loadV Try.prog E H11 3 (.ptr (.new H8.next) 1) = some (.int .i64 y.2) := by rw [ld_3, loadCell_new E c2']; rfl
    rw [l1, oS, fa_49_1, oS, Nat.zero_add, y1, oS]
    have hne11 : bs ++ fixS x.arms.length 2 ++ done ++ fixS y.1 8 ≠ [] := fun e => hne8 (List.append_eq_nil_iff.1 e).1
    refine (number_ok F11 B11 hne11 (l2.less F11 fun j _ hj => x68 (show H6.next ≤ k11 by omega) j hj) hyr.2 (s := 4) (by omega) (by omega) (by rw [List.length_append, fixS_length]; omega)).use ?_
    rintro v12 H12 ⟨r12, k12, rfl, B12, hk12, K12⟩ F12 n12
    simp only [ex0, ex1, oS]
    have K12' : Keeps X6 H7 H12 := Keeps.trans K11' K12 F7 (fun j _ hj => x68 (show H6.next ≤ k11 by omega) j hj)
    have hok2 : ((ok && decide (fitLo (IntKind.u8.wrap x.a) ≤ y.1 ∧ y.1 ≤ fitHi (IntKind.u8.wrap x.a)) && decide (0 ≤ y.2 ∧ y.2 ≤ 4294967295)) && (x.arms.drop (i + 1)).all (armOk (IntKind.u8.wrap x.a))) = x.arms.all (armOk (IntKind.u8.wrap x.a)) := by
      rw [← hok, List.drop_eq_getElem_cons hlt, List.all_cons, ← hy]
      simp only [armOk, Bool.and_assoc]
    have fin : ∀ c : Bool, c = (ok && decide (fitLo (IntKind.u8.wrap x.a) ≤ y.1 ∧ y.1 ≤ fitHi (IntKind.u8.wrap x.a)) && decide (0 ≤ y.2 ∧ y.2 ≤ 4294967295)) →
        ∃ (i' k' : Nat) (done : List Int) (ok : Bool), (AV.int .i64 (IntKind.i64.wrap ((i : Int) + 1))) = .int .i64 (i' : Int) ∧ i' + (n - 1) = x.arms.length ∧ (AV.bool c) = .bool ok ∧ Fine H12 ∧ H7.next ≤ H12.next ∧ Bs H12 r12 (bs ++ fixS x.arms.length 2 ++ done) k' ∧ H6.next ≤ k' ∧ done.length = 12 * i' ∧ done ++ armsB (x.arms.drop i') = armsB x.arms ∧
        (ok && (x.arms.drop i').all (armOk (IntKind.u8.wrap x.a))) = x.arms.all (armOk (IntKind.u8.wrap x.a)) ∧ Keeps X6 H7 H12 := by
      rintro c rfl
      refine ⟨i + 1, k12, done ++ (fixS y.1 8 ++ fixS y.2 4), _, by rw [wrap_i64 (by omega) (by omega)]; simp, by omega, rfl, F12, by omega, ?_, by omega, ?_, ?_, hok2, K12'⟩
      · have : bs ++ fixS x.arms.length 2 ++ (done ++ (fixS y.1 8 ++ fixS y.2 4)) = bs ++ fixS x.arms.length 2 ++ done ++ fixS y.1 8 ++ fixS y.2 4 := by simp only [List.append_assoc]
        rw [this]; exact B12
      · simp only [List.length_append, fixS_length]; omega
      · rw [← hdone, List.drop_eq_getElem_cons hlt, ← hy]
        simp only [armsB, List.flatMap_cons, armB, List.append_assoc]
    cases ok with
    | true =>
      simp only [wB, btt, vT, oS, pB, if_true]
      by_cases hw : fitLo (IntKind.u8.wrap x.a) ≤ y.1 ∧ y.1 ≤ fitHi (IntKind.u8.wrap x.a)
      · simp only [dT hw, wB, btt, vT, oS, pB, if_true, bin_add]
        exact ⟨n - 1, by omega, rfl, rfl, rfl, rfl, rfl, rfl, fin _ (by simp only [dT hw, Bool.true_and]; rfl)⟩
      · simp only [dF hw, wB, bft, vF, oS, pB, Bool.false_eq_true, if_false, bin_add]
        exact ⟨n - 1, by omega, rfl, rfl, rfl, rfl, rfl, rfl, fin _ (by simp only [dF hw, Bool.true_and, Bool.false_and])⟩
    | false =>
      simp only [wB, bft, vF, oS, pB, Bool.false_eq_true, if_false, bin_add]
      exact ⟨n - 1, by omega, rfl, rfl, rfl, rfl, rfl, rfl, fin _ (by simp only [Bool.false_and])⟩
  · have hge : ¬ (i : Int) < x.arms.length := of_decide_eq_false hge
    have hdrop : x.arms.drop i = [] := List.drop_eq_nil_of_le (by omega)
    rw [hdrop] at hdone hok
    simp only [armsB, List.flatMap_nil, List.append_nil, List.all_nil, Bool.and_true] at hdone hok
    obtain ⟨lv, l1, l2⟩ := (L7.keep K8 xl).load (E := E)
    have g8 : H8.get H.next = some (.cells x.cells true []) := K8 _ _ _ xh g7
    rw [l1, oS, fa_24_2, oS, Nat.zero_add, (cells g8).2.1, oS]
    have hbl : (bs ++ fixS x.arms.length 2 ++ done).length < 2 ^ 32 := by rw [List.length_append, List.length_append, fixS_length]; omega
    refine (number_ok F8 B8 hne8 (l2.less F8 fun j _ hj => x68 hk8 j hj) ho.b (s := 4) (by omega) (by omega) (by omega)).use ?_
    rintro v9 H9 ⟨r9, k9, rfl, B9, hk9, K9⟩ F9 n9
    have K09 : Keeps (fun j => j ≠ k) H H9 := Keeps.trans K07 (Keeps.trans K8 K9 F7 fun j _ hj => x68 hk8 j hj) F fun j hj h => (x6 j).2 ⟨h, by omega⟩
    have hB : bs ++ (fixS x.arms.length 2 ++ armsB x.arms ++ fixS x.b 4) = bs ++ fixS x.arms.length 2 ++ done ++ fixS x.b 4 := by rw [hdone]; simp only [armsB, List.append_assoc]
    rw [hB, ← hok]
    simp only [ex0, ex1, oS]
    cases ok with
    | true =>
      simp only [wB, btt, vT, oS, pB, if_true, Bool.true_and]
      exact ⟨K09, _, _, rfl, B9, by omega⟩
    | false =>
      simp only [wB, bft, vF, oS, pB, Bool.false_eq_true, if_false, Bool.false_and]
      exact ⟨K09, _, _, rfl, B9, by omega⟩
end
end Go.Proofs.Ytcboaonbfgjmgaa.op
