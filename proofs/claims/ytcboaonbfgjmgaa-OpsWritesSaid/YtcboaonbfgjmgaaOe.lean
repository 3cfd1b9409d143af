/-
  Instructions: Encode, Size.
-/
import Derived.Test.YtcboaonbfgjmgaaOd
open Go.Proofs Go Go.Am
namespace Go.Proofs.Ytcboaonbfgjmgaa.op
open Go.Proofs.Ytcboaonbfgjmgaa.vb
set_option linter.unusedVariables false
set_option linter.unusedSimpArgs false
set_option maxRecDepth 100000

variable {E : Env} {w0 : World}

theorem bs_27 (H : AHeap) (n : Int) : buildSliceA Try.prog H 27 1 [(0, .int .u8 n)] = some (.slc (.new H.next) 0 1 1 true 1, newCells H [.int .u8 n]) := by kernel_rfl

theorem fldB_length (x : In) : ∀ (i : Nat) (l : List Fd), (∀ f ∈ l, f.size ≤ 8) → (fldB x i l).length ≤ 8 * l.length
  | _, [], _ => by simp [fldB]
  | i, f :: l, h => by
    have := fldB_length x (i + 1) l fun f hf => h f (List.mem_cons_of_mem _ hf)
    have := h f (List.mem_cons_self ..)
    simp only [fldB, List.length_append, fixS_length, List.length_cons]
    omega

section
variable {H : AHeap}
theorem j14_1 {ok : Bool} {r : AV} {Q : AV → AHeap → Prop} (h1 : ok = true → Q (.tup [r, .int .i64 0]) H) (h2 : ok = false → Q (.tup [.nilSlc, .int .i64 120]) H) : J14_1 E w0 Q (.bool ok) r H := by
  unfold J14_1
  cases ok
  · exact h2 rfl
  · exact h1 rfl

theorem encode_ok (F : Fine H) {x : In} (ho : x.Ok) (ha : ArmsAt E All H x.av x.arms) : FnX Try.prog E w0 14 [.agg x.cells] H fun v H' =>
    Stays H H' ∧ ∃ r k', v = .tup [r, .int .i64 (if isS x then 0 else 120)] ∧ Bs H' r (if isS x then encB x else []) k' ∧ H.next ≤ k' ∧ (isS x = true → r ≠ .nilSlc) := by
  refine V14_ok ?_
  unfold V14
  have hcl : AV.cells (.agg x.cells) = x.cells := rfl
  obtain ⟨a1, a2, a3, F1⟩ := F.newCells x.cells
  rw [wW, hcl]
  generalize hH1 : newCells H x.cells = H1 at *
  have cells : ∀ {H' : AHeap}, H'.get H.next = some (.cells x.cells true []) → loadV Try.prog E H' 5 (.ptr (.new H.next) 0) = some (.int .u8 x.op) ∧ loadV Try.prog E H' 2 (.ptr (.new H.next) 1) = some (.int .i64 x.a) ∧ loadV Try.prog E H' 2 (.ptr (.new H.next) 2) = some (.int .i64 x.b) ∧ loadV Try.prog E H' 22 (.ptr (.new H.next) 3) = some x.av ∧ loadV Try.prog E H' 24 (.ptr (.new H.next) 0) = some (.agg x.cells) := fun hg =>
    ⟨by rw [ld_5, loadCell_new E hg]; rfl, by rw [ld_2, loadCell_new E hg]; rfl, by rw [ld_2, loadCell_new E hg]; rfl, by rw [ld_22, loadCell_new E hg]; rfl, by rw [ld_24, loadRange_new E hg, if_pos (by simp [In.cells])]; rfl⟩
  have A1 : ArmsAt E All H1 x.av x.arms := ha.keep (Keeps.of a2)
  simp only [fa_24_0, oS, Nat.add_zero, (cells a1).1]
  refine (layout_ok F1).use ?_
  rintro v2 H2 ⟨lv, rfl, fl, s2⟩ F2 n2
  simp only [ex0, ex1, oS]
  have g2 := s2 _ _ _ a1
  simp only [(cells g2).1, oS, bs_27, o2S]
  obtain ⟨b1, b2, b3, F3⟩ := F2.newCells [AV.int .u8 x.op]
  have hfm := first_of (E := E) (H := newCells H2 [AV.int .u8 x.op]) (cap := 1) (ex := true) (ms := [x.op]) b1
  refine (put_ok F3 (bs := []) (k := (newCells H2 [AV.int .u8 x.op]).next) (.inl ⟨rfl, rfl⟩) hfm (by simp) (by simp)).use ?_
  rintro v4 H4 ⟨B4, k4⟩ F4 n4
  rw [fl.len, oS]
  simp only [List.nil_append] at B4
  generalize hH3 : newCells H2 [AV.int .u8 x.op] = H3 at *
  have s34 : Stays H3 H4 := k4.stays F3 fun j hj => by omega
  have s24 : Stays H2 H4 := stays_trans b2 s34
  have s04 : Stays H H4 := stays_trans a2 (stays_trans s2 s24)
  obtain ⟨X, hX⟩ : ∃ X : Nat → Prop, X = fun j => j < H3.next := ⟨_, rfl⟩
  have xx : ∀ j, X j ↔ j < H3.next := fun j => by rw [hX]
  obtain ⟨l, hl⟩ : ∃ l, l = (lay x.op).getD [] := ⟨_, rfl⟩
  rw [← hl] at fl ⊢
  have hsz : ∀ f ∈ l, 1 ≤ f.size ∧ f.size ≤ 8 := by rw [hl]; exact lay_size
  have hll : l.length ≤ 2 := by rw [hl]; exact lay_length
  have fl4 : FieldsAt X H4 lv l := (fl.less F2 fun j hj _ => (xx j).2 (by omega)).keep (Keeps.of s24)
  have A4 : ArmsAt E X H4 x.av x.arms := (A1.less F1 fun j hj _ => (xx j).2 (by omega)).keep (Keeps.of (stays_trans s2 s24))
  have g4 : H4.get H.next = some (.cells x.cells true []) := s24 _ _ _ g2
  have xh : X H.next := (xx _).2 (by omega)
  refine loop14_0 (I := fun n t1 t4 t5 t6 t21 t22 t23 H' => t1 = .ptr (.new H.next) 0 ∧ lv = t4 ∧ lv = t21 ∧ t22 = .int .i64 (l.length : Int) ∧ ∃ (i k' : Nat) (done : List Int) (ok : Bool), t23 = .int .i64 (i : Int) ∧ i + n = l.length ∧ t5 = .bool ok ∧ Fine H' ∧ H4.next ≤ H'.next ∧
      Bs H' t6 (x.op :: done) k' ∧ H3.next ≤ k' ∧ done.length ≤ 8 * i ∧ done ++ fldB x i (l.drop i) = fldB x 0 l ∧ (ok && fldOk x i (l.drop i)) = ((lay x.op).isSome && fldOk x 0 l) ∧ Keeps X H4 H') ?_ (n := l.length)
    ⟨rfl, rfl, rfl, rfl, 0, H3.next, [], _, rfl, by omega, rfl, F4, Nat.le_refl _, B4, Nat.le_refl _, by simp, rfl, rfl, Keeps.refl⟩
  rintro n _ _ _ t6 _ _ _ H5 ⟨rfl, rfl, rfl, rfl, i, k5, done, ok, rfl, hi, rfl, F5, n5, B5, hk5, hdl, hdone, hok, K5⟩
  intros
  unfold B14_0
  have s05 : Stays H H5 := fun j al pr hj => K5 _ _ _ ((xx j).2 (by have := F.lt hj; omega)) (s04 _ _ _ hj)
  have g5 : H5.get H.next = some (.cells x.cells true []) := K5 _ _ _ xh g4
  have hk5lt := B5.lt F5 (by simp)
  rw [bin_lss, oS, condW_bool]
  refine ⟨fun hlt => ?_, fun hge => ?_⟩
  · have hlt : i < l.length := by have := of_decide_eq_true hlt; omega
    obtain ⟨f, hf⟩ : ∃ f, f = l[i] := ⟨_, rfl⟩
    have hfm := hsz f (by rw [hf]; exact List.getElem_mem _)
    obtain ⟨p, fv, e1, e2, m⟩ := (fl4.keep K5).at (E := E) (j := i) (f := f) (by rw [hf]; exact List.getElem?_eq_getElem hlt)
    rw [e1, oS, e2, oS]
    refine box_new F5 m fun H6 F6 s6 n6 b6 => ?_
    have K6 : Keeps X H4 H6 := Keeps.trans K5 (Keeps.of s6) F4 fun _ _ h => h
    have g6 : H6.get H.next = some (.cells x.cells true []) := s6 _ _ _ g5
    obtain ⟨fv', l1, l2⟩ := b6.load (E := E)
    simp only [fa_24_1, fa_24_2, oS, Nat.zero_add, (cells g6).2.1, (cells g6).2.2.1, eqv_3, condW_bool]
    have hdrop : l.drop i = f :: l.drop (i + 1) := by rw [hf]; exact List.drop_eq_getElem_cons hlt
    rw [hdrop] at hdone hok
    simp only [fldB, fldOk] at hdone hok
    have hnum : I64 (x.num i) := by unfold In.num; split; exact ho.b; exact ho.a
    refine ⟨fun h => ?_, fun h => ?_⟩
    · have hz : x.b = x.num i := by
        have : (i : Int) = 1 := by simpa using h
        rw [In.num, if_pos (by omega)]
      rw [hz]
      unfold J14_0
      rw [l1, oS]
      refine (number_ok F6 (B5.keep fun all pre hg => s6 _ _ _ hg) (by simp) (l2.less F6 fun j _ hj => by have := (xx j).1 hj; omega) hnum (s := f.size) hfm.1 hfm.2 (by simp only [List.length_cons]; omega)).use ?_
      rintro v7 H7 ⟨r7, k7, rfl, B7, hk7, K7⟩ F7 n7
      simp only [ex0, ex1, oS]
      have K7' : Keeps X H4 H7 := Keeps.trans K6 K7 F4 (fun j _ hj => by have := (xx j).1 hj; omega)
      have fin : ∀ c : Bool, c = (ok && decide (f.lo ≤ x.num i ∧ x.num i ≤ f.hi)) → ∃ (i' k' : Nat) (done : List Int) (ok : Bool), (AV.int .i64 (IntKind.i64.wrap ((i : Int) + 1))) = .int .i64 (i' : Int) ∧ i' + (n - 1) = l.length ∧ (AV.bool c) = .bool ok ∧ Fine H7 ∧ H4.next ≤ H7.next ∧
          Bs H7 r7 (x.op :: done) k' ∧ H3.next ≤ k' ∧ done.length ≤ 8 * i' ∧ done ++ fldB x i' (l.drop i') = fldB x 0 l ∧ (ok && fldOk x i' (l.drop i')) = ((lay x.op).isSome && fldOk x 0 l) ∧ Keeps X H4 H7 := by
        rintro c rfl
        refine ⟨i + 1, k7, done ++ fixS (x.num i) f.size, _, by rw [wrap_i64 (by omega) (by omega)]; simp, by omega, rfl, F7, by omega, ?_, by omega, by simp only [List.length_append, fixS_length]; omega, ?_, ?_, K7'⟩
        · simpa using B7
        · rw [← hdone, List.append_assoc]
        · rw [← hok, Bool.and_assoc]
          rfl
      cases ok with
      | true =>
        simp only [wB, btt, vT, oS, pB, if_true, bin_add]
        exact ⟨n - 1, by omega, rfl, rfl, rfl, rfl, rfl, fin _ (by simp only [Bool.true_and])⟩
      | false =>
        simp only [wB, bft, vF, oS, pB, Bool.false_eq_true, if_false, bin_add]
        exact ⟨n - 1, by omega, rfl, rfl, rfl, rfl, rfl, fin _ (by simp only [Bool.false_and])⟩
    · have hz : x.a = x.num i := by
        have : ¬ (i : Int) = 1 := by simpa using h
        rw [In.num, if_neg (by omega)]
      rw [hz]
      unfold J14_0
      rw [l1, oS]
      refine (number_ok F6 (B5.keep fun all pre hg => s6 _ _ _ hg) (by simp) (l2.less F6 fun j _ hj => by have := (xx j).1 hj; omega) hnum (s := f.size) hfm.1 hfm.2 (by simp only [List.length_cons]; omega)).use ?_
      rintro v7 H7 ⟨r7, k7, rfl, B7, hk7, K7⟩ F7 n7
      simp only [ex0, ex1, oS]
      have K7' : Keeps X H4 H7 := Keeps.trans K6 K7 F4 (fun j _ hj => by have := (xx j).1 hj; omega)
      have fin : ∀ c : Bool, c = (ok && decide (f.lo ≤ x.num i ∧ x.num i ≤ f.hi)) → ∃ (i' k' : Nat) (done : List Int) (ok : Bool), (AV.int .i64 (IntKind.i64.wrap ((i : Int) + 1))) = .int .i64 (i' : Int) ∧ i' + (n - 1) = l.length ∧ (AV.bool c) = .bool ok ∧ Fine H7 ∧ H4.next ≤ H7.next ∧
          Bs H7 r7 (x.op :: done) k' ∧ H3.next ≤ k' ∧ done.length ≤ 8 * i' ∧ done ++ fldB x i' (l.drop i') = fldB x 0 l ∧ (ok && fldOk x i' (l.drop i')) = ((lay x.op).isSome && fldOk x 0 l) ∧ Keeps X H4 H7 := by
        rintro c rfl
        refine ⟨i + 1, k7, done ++ fixS (x.num i) f.size, _, by rw [wrap_i64 (by omega) (by omega)]; simp, by omega, rfl, F7, by omega, ?_, by omega, by simp only [List.length_append, fixS_length]; omega, ?_, ?_, K7'⟩
        · simpa using B7
        · rw [← hdone, List.append_assoc]
        · rw [← hok, Bool.and_assoc]
          rfl
      cases ok with
      | true =>
        simp only [wB, btt, vT, oS, pB, if_true, bin_add]
        exact ⟨n - 1, by omega, rfl, rfl, rfl, rfl, rfl, fin _ (by simp only [Bool.true_and])⟩
      | false =>
        simp only [wB, bft, vF, oS, pB, Bool.false_eq_true, if_false, bin_add]
        exact ⟨n - 1, by omega, rfl, rfl, rfl, rfl, rfl, fin _ (by simp only [Bool.false_and])⟩
  · have hge : ¬ (i : Int) < l.length := of_decide_eq_false hge
    have hdrop : l.drop i = [] := List.drop_eq_nil_of_le (by omega)
    rw [hdrop] at hdone hok
    simp only [fldB, fldOk, List.append_nil, Bool.and_true] at hdone hok
    have nx : ∀ {H9 : AHeap} {c : Bool} {r : AV} {k' : Nat}, c = isS x → Stays H H9 → (c = true → Bs H9 r (encB x) k') → H.next ≤ k' → J14_1 E w0 (fun v H' => Stays H H' ∧ ∃ r k', v = .tup [r, .int .i64 (if isS x = true then 0 else 120)] ∧ Bs H' r (if isS x = true then encB x else []) k' ∧ H.next ≤ k' ∧ (isS x = true → r ≠ .nilSlc)) (.bool c) r H9 := by
      intro H9 c r k' hc hs hb hk
      refine j14_1 (fun h => ?_) (fun h => ?_)
      · rw [h] at hc
        simp only [← hc, if_true]
        refine ⟨hs, r, k', rfl, hb h, hk, fun _ e => ?_⟩
        rcases hb h with ⟨_, h⟩ | ⟨_, _, _, _, h, _⟩
        · simp [encB] at h
        · rw [e] at h; cases h
      · rw [h] at hc
        simp only [← hc, Bool.false_eq_true, if_false]
        exact ⟨hs, _, k', rfl, .inl ⟨rfl, rfl⟩, hk, fun h => by cases h⟩
    rw [fa_24_0, oS, Nat.add_zero, (cells g5).1, oS, eqv_5, oS]
    by_cases hsw : x.op = 49 ∧ ok = true
    · obtain ⟨hsw, rfl⟩ := hsw
      have hb : (x.op == 49) = true := by simpa using hsw
      simp only [hb, wB, btt, vT, oS, pB, if_true]
      rw [cT, (cells g5).2.2.2.2, oS]
      refine (arms_ok F5 ho B5 (by simp) (by simp only [List.length_cons]; omega) ((A4.keep K5).less F5 fun j _ hj => by have := (xx j).1 hj; omega)).use ?_
      rintro v9 H9 ⟨K9, h9⟩ F9 n9
      have s09 : Stays H H9 := fun j al pr hj => K9 _ _ _ (by have := F.lt hj; simp only; omega) (s05 _ _ _ hj)
      by_cases hlen : x.arms.length ≤ 65535
      · rw [if_pos hlen] at h9
        obtain ⟨r, k', rfl, B9, hk9⟩ := h9
        simp only [ex0, ex1, oS]
        refine nx ?_ s09 (fun _ => ?_) (show H.next ≤ k' by omega)
        · unfold isS
          rw [← hl, ← hok, if_pos hsw, dT hlen]
          simp only [Bool.true_and]
        · unfold encB
          rw [← hl, if_pos hsw]
          simpa [← hdone] using B9
      · rw [if_neg hlen] at h9
        subst h9
        simp only [ex0, ex1, oS]
        refine nx (k' := H.next) ?_ s09 (fun h => by cases h) (Nat.le_refl _)
        unfold isS
        rw [if_pos hsw, dF hlen]
        simp only [Bool.false_and, Bool.and_false]
    have hS : isS x = (ok && (decide (x.arms.length = 0) && (decide (2 ≤ l.length) || decide (x.b = 0)) && (decide (1 ≤ l.length) || decide (x.a = 0)))) := by
      unfold isS
      rw [← hl, ← hok]
      by_cases h : x.op = 49
      · have : ok = false := by
          cases ok with
          | true => exact (hsw ⟨h, rfl⟩).elim
          | false => rfl
        rw [this]; simp only [Bool.false_and]
      · rw [if_neg h]
    have hE : isS x = true → encB x = x.op :: done := by
      intro h
      have h1 : ok = true := by
        rw [hS] at h
        cases ok with
        | true => rfl
        | false => simp at h
      unfold encB
      rw [if_neg (fun e => hsw ⟨e, h1⟩), ← hl, ← hdone, List.append_nil]
    have left : ∀ {A B : Prop}, B → (optW (some (.bool (x.op == 49))) fun v39 => optW (valG (wantsA v39 true) (some (.bool ok))) fun v40 => optW (pickV v39 v40 (.bool false)) fun v41 => condW v41 A B) := by
      intro A B hB
      by_cases h : x.op = 49
      · have hb : (x.op == 49) = true := by simpa using h
        have : ok = false := by
          cases ok with
          | true => exact (hsw ⟨h, rfl⟩).elim
          | false => rfl
        subst this
        simp only [hb, wB, btt, vT, oS, pB, if_true, cF]
        exact hB
      · have hb : (x.op == 49) = false := by simpa using h
        simp only [hb, wB, bft, vF, oS, pB, Bool.false_eq_true, if_false, cF]
        exact hB
    refine left ?_
    rw [fa_24_3, oS, Nat.zero_add, (cells g5).2.2.2.1, oS, A4.len, oS, bin_gtr, oS]
    by_cases c1 : (x.arms.length : Int) > 0
    · simp only [dT c1, cT]
      refine nx (k' := H.next) ?_ s05 (fun h => by cases h) (Nat.le_refl _)
      rw [hS, dF (show ¬ x.arms.length = 0 by omega)]
      simp only [Bool.false_and, Bool.and_false]
    simp only [dF c1, cF]
    have c1' : decide (x.arms.length = 0) = true := dT (by omega)
    rw [fl4.len, oS, bin_lss, oS]
    by_cases c2 : (l.length : Int) < 2 ∧ x.b ≠ 0
    · have hb : (x.b != 0) = true := by simpa using c2.2
      simp only [dT c2.1, wB, btt, vT, fa_24_2, Nat.zero_add, (cells g5).2.2.1, oS, nev_2, pB, if_true, hb, cT]
      refine nx (k' := H.next) ?_ s05 (fun h => by cases h) (Nat.le_refl _)
      rw [hS, dF (show ¬ 2 ≤ l.length by omega), dF c2.2]
      simp only [Bool.or_false, Bool.false_and, Bool.and_false]
    have c2' : (decide (2 ≤ l.length) || decide (x.b = 0)) = true := by
      by_cases h : 2 ≤ l.length
      · rw [dT h]; rfl
      · by_cases hb : x.b = 0
        · rw [dT hb]; simp
        · exact (c2 ⟨by omega, hb⟩).elim
    have left2 : ∀ {A : AV → Prop} {B : Prop}, B → (optW (valG (wantsA (.bool (decide ((l.length : Int) < 2))) true) (fieldAtA Try.prog 24 (.ptr (.new H.next) 0) 2)) fun v53 => optW (valG (wantsA (.bool (decide ((l.length : Int) < 2))) true) (loadV Try.prog E H5 2 v53)) fun v54 =>
        optW (valG (wantsA (.bool (decide ((l.length : Int) < 2))) true) (binV Try.prog .neq 2 (.tmp 69) (.const (.int .i64 0)) v54 (.int .i64 0))) fun v55 => optW (pickV (.bool (decide ((l.length : Int) < 2))) v55 (.bool false)) fun v56 => condW v56 (A v56) B) := by
      intro A B hB
      by_cases h : (l.length : Int) < 2
      · have hb : (x.b != 0) = false := by
          by_cases hb : x.b = 0
          · rw [hb]; rfl
          · exact (c2 ⟨h, hb⟩).elim
        simp only [dT h, wB, btt, vT, fa_24_2, Nat.zero_add, (cells g5).2.2.1, oS, nev_2, pB, if_true, hb, cF]
        exact hB
      · simp only [dF h, wB, bft, vF, oS, pB, Bool.false_eq_true, if_false, cF]
        exact hB
    refine left2 ?_
    rw [oS, bin_lss, oS]
    have last : isS x = (ok && (decide (1 ≤ l.length) || decide (x.a = 0))) := by rw [hS, c1', c2']; simp only [Bool.true_and]
    by_cases c3 : (l.length : Int) < 1
    · simp only [dT c3, wB, btt, vT, fa_24_1, Nat.zero_add, (cells g5).2.1, oS, nev_2, pB, if_true]
      by_cases ha : x.a = 0
      · have hb : (x.a != 0) = false := by rw [ha]; rfl
        simp only [hb, cF]
        refine nx (k' := k5) ?_ s05 (fun h => ?_) (by omega)
        · rw [last, dT ha, Bool.or_true, Bool.and_true]
        · rw [hE (by rw [last, dT ha, h]; simp)]; exact B5
      · have hb : (x.a != 0) = true := by simpa using ha
        simp only [hb, cT]
        refine nx (k' := H.next) ?_ s05 (fun h => by cases h) (Nat.le_refl _)
        rw [last, dF ha, dF (show ¬ 1 ≤ l.length by omega)]
        simp
    · simp only [dF c3, wB, bft, vF, oS, pB, Bool.false_eq_true, if_false, cF]
      refine nx (k' := k5) ?_ s05 (fun h => ?_) (by omega)
      · rw [last, dT (show 1 ≤ l.length by omega)]; simp
      · rw [hE (by rw [last, dT (show 1 ≤ l.length by omega), h]; simp)]; exact B5

theorem size_ok (F : Fine H) {x : In} (ho : x.Ok) (ha : ArmsAt E All H x.av x.arms) : FnX Try.prog E w0 15 [.agg x.cells] H fun v H' => Stays H H' ∧ v = .int .i64 (if isS x then ((encB x).length : Int) else 0) := by
  refine V15_ok ?_
  unfold V15
  have hcl : AV.cells (.agg x.cells) = x.cells := rfl
  obtain ⟨a1, a2, a3, F1⟩ := F.newCells x.cells
  rw [wW, hcl, ld_24, loadRange_new E a1, if_pos (by simp [In.cells])]
  have ht : (x.cells.drop 0).take 4 = x.cells := rfl
  rw [ht, Option.bind_some, oS]
  refine (encode_ok F1 ho (ha.keep (Keeps.of a2))).use ?_
  rintro v2 H2 ⟨s2, r, k', rfl, B2, _, _⟩ F2 n2
  simp only [ex0, ex1, oS, B2.len]
  refine ⟨stays_trans a2 s2, ?_⟩
  by_cases h : isS x = true
  · simp only [if_pos h]
  · simp only [if_neg h]; rfl
end
end Go.Proofs.Ytcboaonbfgjmgaa.op
