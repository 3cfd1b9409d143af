/-
  HeapPlays: every call of every script is answered by the program's heap as by the document's, and so are what is used and all things in the end; whatever the input.
-/
import Derived.Test.YtjbpdmlpjgejcaaRows
import Derived.Test.YtjbpdmlpjgejcaaMz
open Go.Proofs Go Go.Am
namespace Go.Proofs.Ytjbpdmlpjgejcaa.heapPlays
open Go.Proofs.Ytjbpdmlpjgejcaa.vcs Go.Proofs.Ytjbpdmlpjgejcaa.vp Go.Proofs.Ytjbpdmlpjgejcaa.hp
set_option linter.unusedVariables false
set_option linter.unusedSimpArgs false
set_option maxRecDepth 100000

variable {E : Env} {w0 : World}

theorem works_ok {H : AHeap} : FnX Try.prog E w0 10 [] H fun v H' => v = .bool true := by
  have h : (callFA Try.prog (fun _ => none) noOv 200 10 [] AHeap.empty).map (·.1) = some (.bool true) := by kernel_rfl
  cases hr : callFA Try.prog (fun _ => none) noOv 200 10 [] AHeap.empty with
  | none => rw [hr] at h; cases h
  | some r =>
    obtain ⟨v, H1⟩ := r
    rw [hr] at h
    simp only [Option.map_some, Option.some.injEq] at h
    subst h
    refine (fnX_pure vcs.mixed hr ?_ ?_).mono fun v' H' h => h.1
    · intro ρ vs h
      exact h
    · intro ρ ρ' u h
      exact h

theorem cap0_le (n : Int) : cap0 n ≤ 1048576 ∧ 0 ≤ cap0 n := by
  unfold cap0
  by_cases h : 0 > n
  · simp only [if_pos h]; refine ⟨?_, ?_⟩ <;> (split <;> omega)
  · simp only [if_neg h]; refine ⟨?_, ?_⟩ <;> (split <;> omega)

theorem capsAdd {L : List Th} (h : Caps L) {th : Th} (ht : ∀ t ws, th = .grow t ws → ws.length ≤ 65536) : Caps (L ++ [th]) := by
  intro t ws hm
  rcases List.mem_append.1 hm with hm | hm
  · exact h t ws hm
  · simp only [List.mem_cons, List.not_mem_nil, or_false] at hm
    exact ht t ws hm.symm
theorem capsPut {L : List Th} (h : Caps L) {th : Th} {i : Nat} (ht : ∀ t ws, th = .grow t ws → ws.length ≤ 65536) : Caps (L.set i th) := by
  intro t ws hm
  rcases List.mem_or_eq_of_mem_set hm with hm | e
  · exact h t ws hm
  · exact ht t ws e.symm
theorem makeS_caps {L : List Th} (h : Caps L) {u l : Int} {th : Th} {cost : Int} (ht : ∀ t ws, th = .grow t ws → ws.length ≤ 65536) : Caps (makeS L u l th cost).2.1 := by
  unfold makeS
  split
  · exact capsAdd h ht
  · exact h

theorem stepS_caps {L : List Th} (h : Caps L) (u l : Int) (o : OpA) : Caps (stepS L u l o).2.1 := by
  unfold stepS
  split
  · exact capsAdd h fun t ws e => by cases e
  split
  · split
    · exact h
    · exact makeS_caps h fun t ws e => by cases e
  split
  · exact makeS_caps h fun t ws e => by cases e
  split
  · split
    · exact h
    · exact makeS_caps h fun t ws e => by cases e
  split
  · exact makeS_caps h fun t ws e => by cases e; simp
  split
  · exact h
  split
  · unfold setL
    cases hth : thAt L o.ref with
    | none => exact h
    | some th =>
      simp only
      cases hw : th.words with
      | none => exact h
      | some ws =>
        simp only
        split
        · refine capsPut h fun t ws' e => ?_
          cases th with
          | text s => cases hw
          | flat t x => cases e
          | grow t x =>
            cases hw; cases e
            rw [List.length_set]
            exact h _ _ (thAt_mem hth)
        · exact h
  split
  · unfold pushR pushL pushU
    cases hg : growAt L o.ref with
    | none => exact h
    | some x =>
      obtain ⟨t, ws⟩ := x
      have hm := h _ _ (growAt_mem hg)
      simp only
      split
      · exact h
      · split
        · exact capsPut h fun t' ws' e => by cases e; simp; omega
        · exact h
  · unfold dropR dropL
    cases hg : growAt L o.ref with
    | none => exact h
    | some x =>
      obtain ⟨t, ws⟩ := x
      have hm := h _ _ (growAt_mem hg)
      simp only
      split
      · exact h
      · exact capsPut h fun t' ws' e => by cases e; simp only [List.length_take]; omega

theorem plays_ok {a1 : AV} {os : List OpA} (hv : Script E a1 os) (hl : os.length < 2 ^ 62) {lim : Int} {H : AHeap} : FnX Try.prog E w0 7 [.int .i64 lim, a1] H fun v _ => v = .bool true := by
  refine fnX_fine fun F => ?_
  refine V7_ok ?_
  unfold V7
  refine loop7_0 (I := fun n t0 t1 t5 t6 H' => t0 = .int .i64 lim ∧ a1 = t1 ∧ Fine H' ∧ ∃ (z : Int) (k : Nat), t5 = .int .i64 z ∧ t6 = .int .i64 (k : Int) ∧ k + n = os.length ∧ z ≤ 131072 ∧
      ∀ j o, j < k → os[j]? = some o → (o.words.length : Int) ≤ 131072 - z) ?_ (n := os.length) ⟨rfl, rfl, F, 131072, 0, rfl, rfl, by omega, by omega, fun j o hj => by omega⟩
  rintro n _ _ _ _ H ⟨rfl, rfl, F, z, k, rfl, rfl, hk, hz, hall⟩
  intros
  unfold B7_0
  rw [hv.len, oS, bin_lss, oS]
  have go : (k < os.length ∧ 0 ≤ z) ∨ ¬ (k < os.length ∧ 0 ≤ z) := by omega
  rcases go with ⟨hlt, hz0⟩ | hno
  · obtain ⟨o, b, i, e0, ho, e1, e2, e3⟩ := hv.at hlt
    have l1 := e3 H 1 (by omega)
    have l4 := e3 H 4 (by omega)
    have l1 : loadV Try.prog E H 9 (.ptr (.old b) (i + 1)) = some (.str o.text) := by rw [ld_9, l1]; rfl
    have l4 : loadV Try.prog E H 22 (.ptr (.old b) (i + 4)) = some o.wv := by rw [ld_22, l4]; rfl
    have c1 : decide ((k : Int) < os.length) = true := decide_eq_true (by omega)
    have c2 : decide (z ≥ 0) = true := decide_eq_true (by omega)
    simp only [c1, wB, btt, vT, oS, bin_geq, c2, pB, if_true, cT, e1, fa_43_1, fa_43_4, l1, l4, len_9, ho.words.len, bin_sub, bin_add, true_and, and_true]
    have h1 := ho.tx
    have h2 := ho.short
    rw [wrap_i64 (n := z - o.text.length) (by omega) (by omega), wrap_i64 (by omega) (by omega), wrap_i64 (by omega) (by omega)]
    refine ⟨n - 1, by omega, rfl, rfl, rfl, F, z - o.text.length - o.words.length, k + 1, rfl, by simp, by omega, by omega, fun j o' hj hj' => ?_⟩
    by_cases hjk : j < k
    · have := hall j o' hjk hj'; omega
    · obtain rfl : j = k := by omega
      rw [e0] at hj'; cases hj'
      omega
  · have key : ∀ Q : Prop, ((0 ≤ z ∧ os.length ≤ 200 → Q) → (¬ (0 ≤ z ∧ os.length ≤ 200) → Q) → Q) := fun Q a b => by
      by_cases h : 0 ≤ z ∧ os.length ≤ 200
      · exact a h
      · exact b h
    have left : ∀ {T Q : AV → AV → AV → Prop}, ((∀ v2 v3 v4, Q v2 v3 v4) → (optW (valG (wantsA (.bool (decide ((k : Int) < os.length))) true) (some (.int .i64 z))) fun v2 => optW (valG (wantsA (.bool (decide ((k : Int) < os.length))) true) (binA Try.prog .geq 3 v2 (.int .i64 0))) fun v3 => optW (pickV (.bool (decide ((k : Int) < os.length))) v3 (.bool false)) fun v4 => condW v4 (T v2 v3 v4) (Q v2 v3 v4))) := by
      intro T Q hQ
      by_cases hlt : k < os.length
      · have c1 : decide ((k : Int) < os.length) = true := decide_eq_true (by omega)
        have c2 : decide (z ≥ 0) = false := decide_eq_false (by omega)
        simp only [c1, wB, btt, vT, oS, bin_geq, c2, pB, if_true, cF]
        exact hQ _ _ _
      · have c1 : decide ((k : Int) < os.length) = false := decide_eq_false (by omega)
        simp only [c1, wB, bft, vF, oS, bin_geq, pB, Bool.false_eq_true, if_false, cF]
        exact hQ _ _ _
    refine left (fun v2 v3 v4 => ?_)
    by_cases hz0 : z < 0
    · have c1 : decide (z < 0) = true := decide_eq_true hz0
      simp only [bin_lss, oS, c1, wB, btf, vF, pB, if_true, cT]
      exact works_ok
    have c1 : decide (z < 0) = false := decide_eq_false hz0
    simp only [bin_lss, oS, c1, wB, bff, vT, pB, Bool.false_eq_true, if_false, hv.len, bin_gtr]
    by_cases h200 : (os.length : Int) > 200
    · have c2 : decide ((os.length : Int) > 200) = true := decide_eq_true h200
      simp only [c2, cT]
      exact works_ok
    have c2 : decide ((os.length : Int) > 200) = false := decide_eq_false h200
    simp only [c2, cF]
    have hwords : ∀ (j : Nat) (o : OpA), os[j]? = some o → o.words.length < 2 ^ 40 := by
      intro j o hj
      have hj' : j < os.length := (List.getElem?_eq_some_iff.1 hj).1
      have := hall j o (by omega) hj
      omega
    refine (new_ok F).use ?_
    rintro v H1 ⟨rfl, R1, s1, n1⟩ F1 _
    refine (new_m F1).use ?_
    rintro v H2 ⟨rfl, M2, s2, n2⟩ F2 _
    have B2 : Both H2 H.next H1.next [] 0 (cap0 lim) NoX := by
      refine ⟨_, _, _, _, _, _, R1.frame (fun k all pre _ h => s2 k all pre h) (by omega), M2, fun k => ?_, fun k hk => hk.elim⟩
      by_cases h : k = H.next
      · exact .inr (if_neg (by omega))
      · exact .inl (if_neg h)
    simp only [eqvn_25, oS, cF]
    obtain ⟨hc1, hc0⟩ := cap0_le lim
    refine loop7_1 (I := fun n t1 t7 t8 t9 H' => a1 = t1 ∧ t7 = .ptr (.new H.next) 0 ∧ t8 = .ptr (.new H1.next) 0 ∧ Fine H' ∧ ∃ (L : List Th) (u : Int) (k : Nat), t9 = .int .i64 (k : Int) ∧ k + n = os.length ∧ L.length ≤ k ∧ Fits L u ∧ Caps L ∧ 0 ≤ u ∧ u ≤ cap0 lim ∧
        Both H' H.next H1.next L u (cap0 lim) NoX) ?_ (n := os.length) ⟨rfl, rfl, rfl, F2, [], 0, 0, rfl, by omega, by simp, fun th h => by simp at h, fun t ws h => by simp at h, by omega, hc0, B2⟩
    rintro n _ _ _ _ H3 ⟨rfl, rfl, rfl, F3, L, u, k, rfl, hk, hLk, hfit, hcaps, hu0, hu1, B3⟩
    intros
    unfold B7_1
    rw [hv.len, oS, bin_lss, oS, condW_bool]
    have hshort : Short L := Fits.short (limit := cap0 lim) hfit (by omega)
    refine ⟨fun hlt => ?_, fun hge => ?_⟩
    · have hlt : k < os.length := by have := of_decide_eq_true hlt; omega
      obtain ⟨o, b, i, e0, ho, e1, e2, e3⟩ := hv.at hlt
      simp only [e1, e2, oS, true_and, and_true]
      refine (does_ok F3 B3 (by omega) hshort hcaps ho (hwords k o e0)).use ?_
      rintro v H4 ⟨rfl, B4⟩ F4 _
      have hstep := stepS_ok hfit hu0 hu1 o
      have hcaps' := stepS_caps hcaps u (cap0 lim) o
      generalize stepS L u (cap0 lim) o = r at hstep hcaps' B4 ⊢
      obtain ⟨⟨ref, trap⟩, L', u'⟩ := r
      obtain ⟨g1, g2, g3, g4, g5, g6⟩ := hstep
      simp only at g1 g2 g3 g4 g5 g6 hcaps' B4
      have hlen : L'.length ≤ k + 1 := by
        by_cases hm : (0 ≤ o.kind ∧ o.kind ≤ 4) ∧ trap = 0
        · have := (g5 hm.1 hm.2).2; omega
        · have := g6 hm; omega
      have B4' := B4
      obtain ⟨lv, tvs, o1, mv, cs, o2, R4, M4, ap, _⟩ := B4'
      have lu : loadCell E H4 (.new H1.next) 1 = some (.int .i64 u') := by rw [loadCell_new E M4.head]; rfl
      simp only [un_not, oS, Bool.not_true, wB, bff, vT, gT]
      refine (used_ok R4).use ?_
      rintro v H5 ⟨rfl, rfl⟩ F5 _
      have lr : loadV Try.prog E H5 23 (.ptr (.old b) (i + 5)) = some (.int .u64 o.ref) := by rw [ld_23, e3 H5 5 (by omega)]; rfl
      simp only [true_and, and_true, oS, nilV_ptr, fa_52_1, Nat.zero_add, ld_3, lu, vT, nev_3, bne_self_eq_false, pB, Bool.false_eq_true, if_false, wB, bff, e1, fa_43_5, lr, gT]
      refine (alike_ok F5 B4 ho.ref.1 ho.ref.2).use ?_
      rintro v H6 ⟨rfl, s6⟩ F6 n6
      simp only [true_and, and_true, oS, vT, un_not, Bool.not_true, pB, Bool.false_eq_true, if_false, cF, bin_add]
      rw [wrap_i64 (by omega) (by omega)]
      exact ⟨n - 1, by omega, rfl, rfl, rfl, rfl, F6, L', u', k + 1, by simp, by omega, hlen, g1, hcaps', by omega, g3, B4.stays s6 n6⟩
    · have hge : ¬ (k : Int) < os.length := of_decide_eq_false hge
      refine loop7_2 (I := fun n t7 t8 t10 H' => t7 = .ptr (.new H.next) 0 ∧ t8 = .ptr (.new H1.next) 0 ∧ Fine H' ∧ ∃ (j : Nat), t10 = .int .i64 (j : Int) ∧ j + n = L.length + 2 ∧ Both H' H.next H1.next L u (cap0 lim) NoX) ?_ (n := L.length + 2)
        ⟨rfl, rfl, F3, 0, rfl, by omega, B3⟩
      rintro n _ _ _ H4 ⟨rfl, rfl, F4, j, rfl, hj, B4⟩
      intros
      unfold B7_2
      have B4' := B4
      obtain ⟨lv, tvs, o1, mv, cs, o2, R4, M4, ap, _⟩ := B4'
      have lu : loadCell E H4 (.new H1.next) 0 = some mv := by rw [loadCell_new E M4.head]; rfl
      have ln : lenV Try.prog H4 50 mv = some (.int .i64 L.length) := by
        rcases M4.list with ⟨rfl, e, _⟩ | ⟨k, cap, ex, all, pre, rfl, _⟩
        · rw [e]; exact len0_50 _
        · exact len_50 ..
      simp only [nilV_ptr, oS, fa_52_0, Nat.add_zero, ld_50, lu, ln, bin_add, bin_leq]
      rw [wrap_i64 (by omega) (by omega), condW_bool]
      refine ⟨fun hle => ?_, fun hgt => ?_⟩
      · have hle : (j : Int) ≤ L.length + 1 := of_decide_eq_true hle
        rw [cv_3_23, oS, wrap_u64 (by omega) (by omega)]
        refine (whole_ok F4 B4 hshort (by omega) (by omega)).use ?_
        rintro v H5 ⟨rfl, s5⟩ F5 n5
        simp only [un_not, oS, Bool.not_true, cF]
        rw [wrap_i64 (by omega) (by omega)]
        exact ⟨n - 1, by omega, rfl, rfl, rfl, F5, j + 1, by simp, by omega, B4.stays s5 n5⟩
      · exact works_ok

section
open Go.ChangeShapes Go.WideShapes Go.ChangeAt Go.RowKit

theorem walk {W : World} {v1 : Value} {lim : Int} (h1 : ∃ os, Script (envOf W) (oldV v1) os ∧ os.length < 2 ^ 62) : Calls Try.prog 7 #[.int .i64 lim, v1] W fun e w => e = .returned (.bool true) ∧ Kept W w := by
  obtain ⟨os, hv, hl⟩ := h1
  exact calls_law (plays_ok hv hl).toW

theorem lifted (os : Os) (started : os.Started) (H : Type) (enc : TypeId × Value → H) :
    ReturnsInHanded {} Try.checked os 7 .any (Rows.heapPlaysSpec.pre6 enc Try.prog Try.f7 Rows.heapPlaysRow.domain false) (Rows.heapPlaysSpec.post enc Try.prog Try.f7 false true false false) := by
  refine returnsInHanded_of_change_sized (C := Try.checked) hp.own started (by kernel_rfl) Try.func7
    (ChangeSpec.witness6 (enc := enc) (C := Try.checked) false ⟨#[], #[.int .i64 0, .slice none 0 0], []⟩ 8 (by kernel_rfl) (by kernel_rfl) (by kernel_rfl) (by kernel_rfl)) ?_
  intro W base args ds gs before hval0 hW hcnd hsz _
  have hW' := hW
  obtain ⟨p, q, hA0, hV, rfl, hfz, hnd⟩ := hW
  have hA : DataW.TrodAll enc Try.prog W 0 (fun _ => true) true Try.f7.params.toList args.toList ds p := hA0
  rw [Try.params7] at hA
  obtain ⟨v0, v1, d0, d1, p0, p1, rfl, rfl, rfl, h0, h1⟩ := trodAll_two hA
  obtain ⟨lim, rfl, _⟩ := open_int Try.underlying3 (hval0 0 3 v0 (by kernel_rfl) rfl) h0
  have k1 := script_of (W := W) (hval0 1 39 v1 (by kernel_rfl) rfl) h1 (fun n hn => by
    have := List.all_eq_true.1 hsz n (DataW.weights_mem_each (j := 1) (t := 39) (d := d1) (by kernel_rfl) rfl n hn)
    simpa using this)
  refine (walk k1).mono fun e W' ⟨he, hg⟩ => ?_
  subst he
  exact ⟨_, rfl, post_of_law (b := 4) hW' rfl laid (of_decide_eq_true (by kernel_rfl)) Try.underlying4 (by kernel_rfl) rfl rfl rfl hg⟩

theorem over : Rows.heapPlaysRow.holds Try.pinned (OpenSpec.ofChange Rows.heapPlaysSpec) :=
  OpenClaim.holds_of_wide 7 Try.f7 rfl rfl rfl rfl rfl rfl rfl ⟨rfl, rfl, rfl, rfl, rfl⟩ rfl rfl rfl rfl rfl (by kernel_rfl) Try.func7 (by kernel_rfl)
    (of_decide_eq_true (by kernel_rfl)) (by unfold Func.isWrapper; first | (rw [if_pos (by decide +kernel)]; kernel_rfl) | (rw [if_neg (by decide +kernel)]; exact ⟨rfl, rfl⟩))
    (fun os started H enc _ => lifted os started H enc)

theorem proved : Rows.HeapPlaysSaid := over
end
end Go.Proofs.Ytjbpdmlpjgejcaa.heapPlays
