/-
  HeapUsed: what is used never falls and never passes the limit, references rise by 1, what is refused takes none; whatever the input.
-/
import Derived.Test.YtjbpdmlpjgejcaaRows
import Derived.Test.YtjbpdmlpjgejcaaHx
open Go.Proofs Go Go.Am
namespace Go.Proofs.Ytjbpdmlpjgejcaa.heapUsed
open Go.Proofs.Ytjbpdmlpjgejcaa.vcs Go.Proofs.Ytjbpdmlpjgejcaa.vd Go.Proofs.Ytjbpdmlpjgejcaa.hp
set_option linter.unusedVariables false
set_option linter.unusedSimpArgs false
set_option maxRecDepth 100000

variable {E : Env} {w0 : World}

theorem oS {α : Type} (x : α) (Q : α → Prop) : optW (some x) Q = Q x := (rfl)
theorem vT (r : Option AV) : valG (some true) r = r := (rfl)
theorem vF (r : Option AV) : valG (some false) r = some undefA := (rfl)
theorem wB (b w : Bool) : wantsA (.bool b) w = some (b == w) := (rfl)
theorem pB (t : Bool) (a b : AV) : pickV (.bool t) a b = some (if t then a else b) := (rfl)
theorem cT (x y : Prop) : condW (.bool true) x y = x := (rfl)
theorem cF (x y : Prop) : condW (.bool false) x y = y := (rfl)
theorem mI (k : IntKind) (a b : Int) : minMaxA true [.int k a, .int k b] = some (.int k (if b > a then b else a)) := (rfl)
theorem ff : (false == true) = false := (rfl)
theorem nf : (false == false) = true := (rfl)
theorem tt : (true == true) = true := (rfl)

/-- All of an object's cells are others now. -/
theorem fine_put {H : AHeap} (F : Fine H) {b : Nat} {all : List AV} (h : H.get b = some (.cells all true [])) (X : List AV) :
    (H.set b (.cells X true [])).get b = some (.cells X true []) ∧ But b H (H.set b (.cells X true [])) ∧ (H.set b (.cells X true [])).next = H.next ∧ Fine (H.set b (.cells X true [])) := by
  have hg : ∀ j, (H.set b (.cells X true [])).get j = if b = j then some (.cells X true []) else H.get j := fun j => get_set' ..
  have hn : (H.set b (.cells X true [])).next = H.next := rfl
  have hbl := F.lt h
  refine ⟨(hg b).trans (if_pos rfl), fun k al pr hk hgk => (hg k).trans (by rw [if_neg (Ne.symm hk)]; exact hgk), hn, ?_, ?_, ?_, ?_⟩
  · intro k hk
    rw [hn] at hk
    exact (hg k).trans (by rw [if_neg (by omega)]; exact F.above k hk)
  · intro k p o op hk hp ho
    rw [hg] at hk ho
    split at hk
    · cases hk; cases hp
    · split at ho
      · rename_i e; subst e
        have := F.kin k _ o _ hk hp h
        cases this
      · exact F.kin k p o op hk hp ho
  · intro k o p hk hp
    rw [hg] at hk
    split at hk
    · cases hk; cases hp
    · exact F.self k o p hk hp
  · intro k o p hk hp
    rw [hn]
    rw [hg] at hk
    split at hk
    · cases hk; cases hp
    · exact F.below k o p hk hp

theorem set_all : ∀ (cs vs : List AV), vs.length = cs.length → setMany cs 0 vs = vs := by
  have key : ∀ (vs pre cs : List AV), vs.length = cs.length → setMany (pre ++ cs) pre.length vs = pre ++ vs := by
    intro vs
    induction vs with
    | nil => intro pre cs h; cases cs with
      | nil => rfl
      | cons => simp at h
    | cons v vs ih =>
      intro pre cs h
      cases cs with
      | nil => simp at h
      | cons c cs =>
        simp only [setMany]
        have := ih (pre ++ [v]) cs (by simpa using h)
        simp only [List.length_append, List.length_cons, List.length_nil] at this
        rw [show (pre ++ c :: cs).set pre.length v = (pre ++ [v]) ++ cs by simp]
        simpa using this
  intro cs vs h
  have := key vs [] cs h
  simpa using this

theorem rd_scalar {v : AV} {ws : List Int} (h : Rd E v ws) : scalar v = true := by
  rcases h with ⟨rfl, rfl⟩ | ⟨b, i, cap, ex, sz, rfl, _⟩ <;> rfl

theorem store_op {H : AHeap} {b : Nat} {all : List AV} (h : H.get b = some (.cells all true [])) (hl : all.length = 8) {o : OpA} (ho : o.Ok E) : storeRange H (.new b) 0 o.cells = some (H.set b (.cells o.cells true [])) := by
  unfold OpA.cells
  rw [storeRange_new h 0 _ _ (by simp; omega) (by
    have := rd_scalar ho.words
    simp only [List.all_cons, List.all_nil, this, Bool.and_true, Bool.true_and]
    rfl), set_all _ _ (by simp [hl])]
  rfl

theorem cap0_le (n : Int) : cap0 n ≤ max n 0 ∧ cap0 n ≤ 1048576 ∧ 0 ≤ cap0 n := by
  unfold cap0
  by_cases h : 0 > n
  · simp only [if_pos h]; refine ⟨?_, ?_, ?_⟩ <;> (split <;> omega)
  · simp only [if_neg h]; refine ⟨?_, ?_, ?_⟩ <;> (split <;> omega)

theorem type_none (L : List Th) : typeR L ((L.length + 1 : Nat) : Int) = 0 := by
  unfold typeR thAt
  rw [if_pos (by omega), List.getElem?_eq_none (by omega)]

theorem used_ok' {a1 : AV} {os : List OpA} (hv : Script E a1 os) (hl : os.length < 2 ^ 62) {lim : Int} {H : AHeap} : FnW Try.prog E w0 6 [.int .i64 lim, a1] H fun v _ => v = .bool true := by
  refine fnW_fine fun F => ?_
  refine V6_ok ?_
  unfold V6
  refine (new_ok F).use ?_
  rintro v H1 ⟨rfl, R1, _, _⟩ F1 _
  refine (short_ok hv hl).use ?_
  rintro v H2 ⟨rfl, b, rfl, hb⟩ _ _
  cases b with
  | false =>
    simp only [un_not, Bool.not_false, optW_some, wantsA_bool, show (true == false) = false from rfl, valG_false, pickV_bool, if_true, condW_true, nevn_25, beq_self_eq_true, guardW_true]
    refine works_ok.use ?_
    rintro v H3 rfl _ _
    rfl
  | true =>
  have hos := hb rfl
  simp only [un_not, Bool.not_true, optW_some, wantsA_bool, beq_self_eq_true, valG_true, eqvn_25, pickV_bool, Bool.false_eq_true, if_false, condW_false]
  obtain ⟨hc1, hc2, hc3⟩ := cap0_le lim
  refine loop6_0 (I := fun n t0 t1 t5 t6 t7 t8 H' => Fine H' ∧ t0 = .int .i64 lim ∧ a1 = t1 ∧ t5 = .ptr (.new H.next) 0 ∧ ∃ (L : List Th) (u : Int) (k : Nat) (lv : AV) (tvs : List AV) (own : Own), t6 = .int .i64 u ∧ t7 = .int .u64 ((L.length + 1 : Nat) : Int) ∧ t8 = .int .i64 (k : Int) ∧ k + n = os.length ∧
      L.length ≤ k ∧ Fits L u ∧ 0 ≤ u ∧ u ≤ cap0 lim ∧ Rp H' H.next lv tvs L u (cap0 lim) own) ?_ (n := os.length)
    ⟨F1, rfl, rfl, rfl, [], 0, 0, _, _, _, rfl, rfl, rfl, by omega, by simp, fun th h => by simp at h, by omega, hc3, R1⟩
  rintro n _ _ _ _ _ _ H3 ⟨F3, rfl, rfl, rfl, L, u, k, lv, tvs, own, rfl, rfl, rfl, hk, hLk, hfit, hu0, hu1, R3⟩
  intros
  unfold B6_0
  rw [hv.len, optW_some, bin_lss, optW_some, condW_bool]
  constructor
  · intro hlt
    have hlt : k < os.length := by have := of_decide_eq_true hlt; omega
    obtain ⟨o, b, i, e0, ho, e1, e2, e3⟩ := hv.at hlt
    rw [e1, optW_some, e2, optW_some, zero_43, optW_some, withW_eq]
    obtain ⟨n1, n2, n3, F4⟩ := F3.newCells (AV.cells (.agg [(.int .i64 0), (.str []), (.int .i64 0), (.int .i64 0), .nilSlc, (.int .u64 0), (.int .i64 0), (.int .u64 0)]))
    rw [st_43]
    have hcl : (AV.agg o.cells).cells = o.cells := rfl
    rw [hcl, if_pos (show some 8 = some o.cells.length from rfl), store_op n1 rfl ho, optW_some]
    obtain ⟨m1, m2, m3, F5⟩ := fine_put F4 n1 o.cells
    have hst : Stays H3 ((newCells H3 (AV.cells (.agg [(.int .i64 0), (.str []), (.int .i64 0), (.int .i64 0), .nilSlc, (.int .u64 0), (.int .i64 0), (.int .u64 0)]))).set H3.next (.cells o.cells true [])) := fun j al pr hj => m2 _ _ _ (by have := F3.lt hj; omega) (n2 _ _ _ hj)
    generalize hH5 : (newCells H3 (AV.cells (.agg [(.int .i64 0), (.str []), (.int .i64 0), (.int .i64 0), .nilSlc, (.int .u64 0), (.int .i64 0), (.int .u64 0)]))).set H3.next (.cells o.cells true []) = H5 at m1 m3 F5 hst ⊢
    have hn5 : H5.next = H3.next + 1 := by rw [m3, n3]
    rw [ld_43, loadRange_new E m1, if_pos (by simp [OpA.cells]), Option.bind_some, optW_some]
    have htake : (o.cells.drop 0).take 8 = o.cells := rfl
    rw [htake]
    have R5 : Rp H5 H.next lv tvs L u (cap0 lim) own := R3.more F3 hst (by omega) (fun _ _ => rfl) (fun j hj => R3.high j (by omega))
    refine (run_ok F5 R5 (by omega) (Fits.short (limit := cap0 lim) hfit (by omega)) ho).use ?_
    rintro v H6 ⟨rfl, lv6, tvs6, own6, R6, _, hon⟩ F6 _
    have hstep := stepS_ok hfit hu0 hu1 o
    generalize stepS L u (cap0 lim) o = r at hstep R6 ⊢
    obtain ⟨⟨ref, trap⟩, L', u'⟩ := r
    obtain ⟨s1, s2, s3, s4, s5, s6⟩ := hstep
    simp only at s1 s2 s3 s4 s5 s6 R6
    simp only [extractV_tup, List.getElem?_cons_zero, List.getElem?_cons_succ, optW_some]
    refine (used_ok R6).use ?_
    rintro v H7 ⟨rfl, rfl⟩ F7 _
    have c1 : decide (u' < u) = false := decide_eq_false (by omega)
    have c2 : decide (u' > (if 0 > lim then 0 else lim)) = false := decide_eq_false (by split <;> omega)
    have c3 : decide (u' > 1048576) = false := decide_eq_false (by omega)
    have own0 : own H3.next = .none := R3.high _ (Nat.le_refl _)
    have hobj : H7.get H3.next = some (.cells o.cells true []) := hon _ _ _ own0 m1
    have hkind : loadCell E H7 (.new H3.next) 0 = some (.int .i64 o.kind) := (loadCell_new E hobj 0).trans rfl
    have again : Rp H7 H.next lv6 tvs6 L' u' (cap0 lim) own6 := R6
    have ldk : loadV Try.prog E H7 3 (.ptr (.new H3.next) 0) = some (.int .i64 o.kind) := by rw [ld_3]; exact hkind
    simp only [bin_lss, c1, oS, wB, beq_self_eq_true, vT, mI, bin_gtr, c2, c3, pB, Bool.false_eq_true, if_false, nev_3]
    by_cases t0 : trap = 0
    · subst t0
      simp only [bne_self_eq_false, wB, ff, vF, oS, pB, Bool.false_eq_true, if_false, nf, vT, cF, fa_43_0, Nat.add_zero, ldk, bin_geq]
      by_cases k0 : o.kind ≥ 0
      · by_cases k4 : o.kind ≤ 4
        · obtain ⟨g1, g2⟩ := s5 ⟨k0, k4⟩ rfl
          subst g1
          simp only [k0, k4, decide_true, wB, beq_self_eq_true, vT, oS, ldk, bin_leq, pB, if_true, eqv_3, cT, nev_23, bne_self_eq_false, cF, bin_add]
          rw [wrap_u64 (by omega) (by omega), wrap_i64 (by omega) (by omega)]
          exact ⟨n - 1, by omega, rfl, F7, rfl, rfl, rfl, L', u', k + 1, lv6, tvs6, own6, rfl, by simp [g2], by simp, by omega, by omega, s1, by omega, s3, again⟩
        · simp only [k0, k4, decide_true, decide_false, wB, beq_self_eq_true, vT, oS, ldk, bin_leq, pB, if_true, cF, ff, vF, Bool.false_eq_true, if_false, bin_add]
          rw [wrap_i64 (by omega) (by omega)]
          have g2 := s6 (fun h => k4 h.1.2)
          exact ⟨n - 1, by omega, rfl, F7, rfl, rfl, rfl, L', u', k + 1, lv6, tvs6, own6, rfl, by simp [g2], by simp, by omega, by omega, s1, by omega, s3, again⟩
      · simp only [k0, decide_false, wB, oS, pB, cF, ff, vF, Bool.false_eq_true, if_false, bin_add]
        rw [wrap_i64 (by omega) (by omega)]
        have g2 := s6 (fun h => k0 h.1.1)
        exact ⟨n - 1, by omega, rfl, F7, rfl, rfl, rfl, L', u', k + 1, lv6, tvs6, own6, rfl, by simp [g2], by simp, by omega, by omega, s1, by omega, s3, again⟩
    · obtain ⟨g1, g3⟩ := s4 t0
      subst g1 g3
      have tb : (trap != 0) = true := by simpa using t0
      have te : (trap == 0) = false := by simpa using t0
      have g2 := s6 (fun h => t0 h.2)
      simp only [tb, bne_self_eq_false, wB, ff, vF, oS, pB, Bool.false_eq_true, if_false, if_true, nf, tt, vT, nev_23, nev_3, cF, fa_43_0, Nat.add_zero, ldk, bin_geq]
      by_cases k0 : o.kind ≥ 0
      · by_cases k4 : o.kind ≤ 4
        · simp only [k0, k4, decide_true, wB, beq_self_eq_true, vT, oS, ldk, bin_leq, pB, if_true, eqv_3, te, cF, bin_add]
          rw [wrap_i64 (by omega) (by omega)]
          exact ⟨n - 1, by omega, rfl, F7, rfl, rfl, rfl, L', _, k + 1, lv6, tvs6, own6, rfl, by simp [g2], by simp, by omega, by omega, s1, by omega, s3, again⟩
        · simp only [k0, k4, decide_true, decide_false, wB, beq_self_eq_true, vT, oS, ldk, bin_leq, pB, if_true, cF, ff, vF, Bool.false_eq_true, if_false, bin_add]
          rw [wrap_i64 (by omega) (by omega)]
          exact ⟨n - 1, by omega, rfl, F7, rfl, rfl, rfl, L', _, k + 1, lv6, tvs6, own6, rfl, by simp [g2], by simp, by omega, by omega, s1, by omega, s3, again⟩
      · simp only [k0, decide_false, wB, oS, pB, cF, ff, vF, Bool.false_eq_true, if_false, bin_add]
        rw [wrap_i64 (by omega) (by omega)]
        exact ⟨n - 1, by omega, rfl, F7, rfl, rfl, rfl, L', _, k + 1, lv6, tvs6, own6, rfl, by simp [g2], by simp, by omega, by omega, s1, by omega, s3, again⟩
  · intro _
    refine (type_ok R3 (by omega) (by omega)).use ?_
    rintro v H4 ⟨rfl, rfl⟩ _ _
    rw [type_none]
    simp only [eqv_3, beq_self_eq_true, optW_some, wantsA_bool, guardW_true]
    refine works_ok.use ?_
    rintro v H5 rfl _ _
    rfl

section
open Go.ChangeShapes Go.WideShapes Go.ChangeAt Go.RowKit

theorem walk {W : World} {v1 : Value} {lim : Int} (h1 : ∃ os, Script (envOf W) (oldV v1) os ∧ os.length < 2 ^ 62) : Calls Try.prog 6 #[.int .i64 lim, v1] W fun e w => e = .returned (.bool true) ∧ Kept W w := by
  obtain ⟨os, hv, hl⟩ := h1
  exact calls_law (used_ok' hv hl)

theorem lifted (os : Os) (started : os.Started) (H : Type) (enc : TypeId × Value → H) :
    ReturnsInHanded {} Try.checked os 6 .any (Rows.heapUsedSpec.pre6 enc Try.prog Try.f6 Rows.heapUsedRow.domain false) (Rows.heapUsedSpec.post enc Try.prog Try.f6 false true false false) := by
  refine returnsInHanded_of_change_sized (C := Try.checked) hp.own started (by kernel_rfl) Try.func6
    (ChangeSpec.witness6 (enc := enc) (C := Try.checked) false ⟨#[], #[.int .i64 0, .slice none 0 0], []⟩ 8 (by kernel_rfl) (by kernel_rfl) (by kernel_rfl) (by kernel_rfl)) ?_
  intro W base args ds gs before hval0 hW hcnd hsz _
  have hW' := hW
  obtain ⟨p, q, hA0, hV, rfl, hfz, hnd⟩ := hW
  have hA : DataW.TrodAll enc Try.prog W 0 (fun _ => true) true Try.f6.params.toList args.toList ds p := hA0
  rw [Try.params6] at hA
  obtain ⟨v0, v1, d0, d1, p0, p1, rfl, rfl, rfl, h0, h1⟩ := trodAll_two hA
  obtain ⟨lim, rfl, _⟩ := open_int Try.underlying3 (hval0 0 3 v0 (by kernel_rfl) rfl) h0
  have k1 := script_of (W := W) (hval0 1 39 v1 (by kernel_rfl) rfl) h1 (fun n hn => by
    have := List.all_eq_true.1 hsz n (DataW.weights_mem_each (j := 1) (t := 39) (d := d1) (by kernel_rfl) rfl n hn)
    simpa using this)
  refine (walk k1).mono fun e W' ⟨he, hg⟩ => ?_
  subst he
  exact ⟨_, rfl, post_of_law (b := 4) hW' rfl laid (of_decide_eq_true (by kernel_rfl)) Try.underlying4 (by kernel_rfl) rfl rfl rfl hg⟩

theorem over : Rows.heapUsedRow.holds Try.pinned (OpenSpec.ofChange Rows.heapUsedSpec) :=
  OpenClaim.holds_of_wide 6 Try.f6 rfl rfl rfl rfl rfl rfl rfl ⟨rfl, rfl, rfl, rfl, rfl⟩ rfl rfl rfl rfl rfl (by kernel_rfl) Try.func6 (by kernel_rfl)
    (of_decide_eq_true (by kernel_rfl)) (by unfold Func.isWrapper; first | (rw [if_pos (by decide +kernel)]; kernel_rfl) | (rw [if_neg (by decide +kernel)]; exact ⟨rfl, rfl⟩))
    (fun os started H enc _ => lifted os started H enc)

theorem proved : Rows.HeapUsedSaid := over
end
end Go.Proofs.Ytjbpdmlpjgejcaa.heapUsed
