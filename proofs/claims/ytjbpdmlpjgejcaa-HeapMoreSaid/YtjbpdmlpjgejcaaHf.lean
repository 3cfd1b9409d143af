/-
  HeapMore: a heap with a greater limit answers the same, as long as the lesser one tells no TrapMemory; whatever the input.
-/
import Derived.Test.YtjbpdmlpjgejcaaRows
import Derived.Test.YtjbpdmlpjgejcaaHx
open Go.Proofs Go Go.Am
namespace Go.Proofs.Ytjbpdmlpjgejcaa.heapMore
open Go.Proofs.Ytjbpdmlpjgejcaa.vcs Go.Proofs.Ytjbpdmlpjgejcaa.vd Go.Proofs.Ytjbpdmlpjgejcaa.hp
set_option linter.unusedVariables false
set_option linter.unusedSimpArgs false
set_option maxRecDepth 100000

variable {E : Env} {w0 : World}

theorem oS {α : Type} (x : α) (Q : α → Prop) : optW (some x) Q = Q x := (rfl)
theorem vT (r : Option AV) : valG (some true) r = r := (rfl)
theorem vF (r : Option AV) : valG (some false) r = some undefA := (rfl)
theorem wB (b w : Bool) : wantsA (.bool b) w = some (b == w) := (rfl)
theorem pB (t : Bool) (a b : AV) : pickV (.bool t) a b = some (if t then a else b) := (rfl)
theorem cT (x y : Prop) : condW (.bool true) x y = x := (rfl)
theorem cF (x y : Prop) : condW (.bool false) x y = y := (rfl)
theorem gT (s : (AV → AHeap → Prop) → Prop) (H : AHeap) (Q : AV → AHeap → Prop) : guardW (some true) s H Q = s Q := (rfl)
theorem mI (k : IntKind) (a b : Int) : minMaxA true [.int k a, .int k b] = some (.int k (if b > a then b else a)) := (rfl)
theorem ff : (false == true) = false := (rfl)
theorem tf : (true == false) = false := (rfl)
theorem nf : (false == false) = true := (rfl)
theorem tt : (true == true) = true := (rfl)

theorem cap0_le (n : Int) : cap0 n ≤ 1048576 ∧ 0 ≤ cap0 n := by
  unfold cap0
  by_cases h : 0 > n
  · simp only [if_pos h]; refine ⟨?_, ?_⟩ <;> (split <;> omega)
  · simp only [if_neg h]; refine ⟨?_, ?_⟩ <;> (split <;> omega)
theorem cap0_mono {a b : Int} (h : a ≤ b) : cap0 a ≤ cap0 b := by
  unfold cap0
  by_cases h1 : 0 > a
  · simp only [if_pos h1]
    by_cases h2 : 0 > b
    · simp only [if_pos h2]; exact Int.le_refl _
    · simp only [if_neg h2]; split <;> (split <;> omega)
  · simp only [if_neg h1, if_neg (show ¬ 0 > b by omega)]
    split <;> (split <;> omega)

theorem makeS_more {L : List Th} {u l1 l2 : Int} (h : l1 ≤ l2) {th : Th} {cost : Int} (ht : (makeS L u l1 th cost).1.2 ≠ 4) : makeS L u l2 th cost = makeS L u l1 th cost := by
  unfold makeS at ht ⊢
  by_cases hr : cost ≤ l1 - u
  · rw [if_pos hr, if_pos (by omega)]
  · rw [if_neg hr] at ht
    exact (ht rfl).elim

/-- A greater limit, the same answer. -/
theorem stepS_more {L : List Th} {u l1 l2 : Int} (h : l1 ≤ l2) {o : OpA} (ht : (stepS L u l1 o).1.2 ≠ 4) : stepS L u l2 o = stepS L u l1 o := by
  unfold stepS at ht ⊢
  split
  · rfl
  rename_i k0
  rw [if_neg k0] at ht
  split
  · rename_i k1
    rw [if_pos k1] at ht
    split
    · rfl
    · rename_i hl
      rw [if_neg hl] at ht
      exact makeS_more h ht
  rename_i k1
  rw [if_neg k1] at ht
  split
  · rename_i k2
    rw [if_pos k2] at ht
    exact makeS_more h ht
  rename_i k2
  rw [if_neg k2] at ht
  split
  · rename_i k3
    rw [if_pos k3] at ht
    split
    · rfl
    · rename_i hl
      rw [if_neg hl] at ht
      exact makeS_more h ht
  rename_i k3
  rw [if_neg k3] at ht
  split
  · rename_i k4
    rw [if_pos k4] at ht
    exact makeS_more h ht
  rename_i k4
  rw [if_neg k4] at ht
  split
  · rfl
  rename_i k5
  rw [if_neg k5] at ht
  split
  · rfl
  rename_i k6
  rw [if_neg k6] at ht
  split
  · rename_i k7
    rw [if_pos k7] at ht
    unfold pushR pushL pushU at ht ⊢
    cases hg : growAt L o.ref with
    | none => rfl
    | some x =>
      obtain ⟨t, ws⟩ := x
      rw [hg] at ht
      simp only at ht ⊢
      by_cases hf : ws.length = 65536
      · simp only [if_pos hf]
      · simp only [if_neg hf] at ht ⊢
        by_cases hr : 1 ≤ l1 - u
        · simp only [if_pos hr, if_pos (show 1 ≤ l2 - u by omega)]
        · simp only [if_neg hr] at ht
          exact (ht rfl).elim
  · rfl

def Two (o1 o2 : Own) : Prop := ∀ k, o1 k = .none ∨ o2 k = .none

theorem more_ok {a2 : AV} {os : List OpA} (hv : Script E a2 os) (hl : os.length < 2 ^ 62) {lim more : Int} {H : AHeap} : FnW Try.prog E w0 5 [.int .i64 lim, .int .i64 more, a2] H fun v _ => v = .bool true := by
  refine fnW_fine fun F => ?_
  refine V5_ok ?_
  unfold V5
  refine (new_ok F).use ?_
  rintro v H1 ⟨rfl, R1, st1, hn1⟩ F1 _
  rw [mI, optW_some]
  have hle : lim ≤ (if more > lim then more else lim) := by split <;> omega
  generalize (if more > lim then more else lim) = lim2 at hle ⊢
  refine (new_ok F1).use ?_
  rintro v H2 ⟨rfl, R2, st2, hn2⟩ F2 _
  have R1' := R1.frame (fun k all pre _ h => st2 k all pre h) (by omega)
  refine (short_ok hv hl).use ?_
  rintro v H3 ⟨rfl, b, rfl, hb⟩ _ _
  cases b with
  | false =>
    simp only [un_not, Bool.not_false, oS, wB, tf, vF, pB, if_true, cT, nevn_25, tt, vT, gT]
    refine works_ok.use ?_
    rintro v H4 rfl _ _
    rfl
  | true =>
  have hos := hb rfl
  simp only [un_not, Bool.not_true, oS, wB, nf, vT, eqvn_25, pB, Bool.false_eq_true, if_false, cF]
  obtain ⟨hc1, hc2⟩ := cap0_le lim
  obtain ⟨hd1, hd2⟩ := cap0_le lim2
  have hmono := cap0_mono hle
  refine loop5_0 (I := fun n t2 t7 t8 t9 H' => Fine H' ∧ a2 = t2 ∧ t7 = .ptr (.new H.next) 0 ∧ t8 = .ptr (.new H1.next) 0 ∧ ∃ (L : List Th) (u : Int) (k : Nat) (lv1 lv2 : AV) (tvs1 tvs2 : List AV) (own1 own2 : Own), t9 = .int .i64 (k : Int) ∧ k + n = os.length ∧
      L.length ≤ k ∧ Fits L u ∧ 0 ≤ u ∧ u ≤ cap0 lim ∧ Two own1 own2 ∧ Rp H' H.next lv1 tvs1 L u (cap0 lim) own1 ∧ Rp H' H1.next lv2 tvs2 L u (cap0 lim2) own2) ?_ (n := os.length)
    ⟨F2, rfl, rfl, rfl, [], 0, 0, _, _, _, _, _, _, rfl, by omega, by simp, fun th h => by simp at h, by omega, hc2, fun k => ?_, R1', R2⟩
  rotate_left
  · by_cases hk : k = H.next
    · exact .inr (if_neg (by omega))
    · exact .inl (if_neg hk)
  rintro n _ _ _ _ H3 ⟨F3, rfl, rfl, rfl, L, u, k, lv1, lv2, tvs1, tvs2, own1, own2, rfl, hk, hLk, hfit, hu0, hu1, htwo, Q1, Q2⟩
  intros
  unfold B5_0
  rw [hv.len, optW_some, bin_lss, optW_some, condW_bool]
  constructor
  · intro hlt
    have hlt : k < os.length := by have := of_decide_eq_true hlt; omega
    obtain ⟨o, b, i, e0, ho, e1, e2, e3⟩ := hv.at hlt
    simp only [e1, oS, e2]
    have hshort := Fits.short (limit := cap0 lim) hfit (by omega)
    refine (run_ok F3 Q1 (by omega) hshort ho).use ?_
    rintro v H4 ⟨rfl, lv1', tvs1', own1', Q1', ext1, only1⟩ F4 hn4
    have Q2' : Rp H4 H1.next lv2 tvs2 L u (cap0 lim2) own2 := Q2.frame (fun j all pre hj h => only1 j all pre ((htwo j).resolve_right hj) h) hn4
    simp only [extractV_tup, List.getElem?_cons_zero, List.getElem?_cons_succ, oS]
    refine (run_ok F4 Q2' (by omega) hshort ho).use ?_
    rintro v H5 ⟨rfl, lv2', tvs2', own2', Q2'', ext2, only2⟩ F5 hn5
    have hdis : ∀ j, own1' j = .none ∨ own2 j = .none := by
      intro j
      by_cases hj : j < H3.next
      · rw [ext1 j hj]; exact htwo j
      · exact .inr (Q2.high j (by omega))
    have Q1'' : Rp H5 H.next lv1' tvs1' (stepS L u (cap0 lim) o).2.1 (stepS L u (cap0 lim) o).2.2 (cap0 lim) own1' := Q1'.frame (fun j all pre hj h => only2 j all pre ((hdis j).resolve_left hj) h) hn5
    have htwo' : Two own1' own2' := by
      intro j
      by_cases hj : j < H4.next
      · rw [ext2 j hj]; exact hdis j
      · exact .inl (Q1'.high j (by omega))
    simp only [extractV_tup, List.getElem?_cons_zero, List.getElem?_cons_succ, oS, eqv_3]
    rw [condW_bool]
    constructor
    · intro _
      exact works_ok
    · intro h4
      have h4 : (stepS L u (cap0 lim) o).1.2 ≠ 4 := by
        intro e
        rw [e] at h4
        exact absurd h4 (by decide)
      have hsame := stepS_more hmono h4
      rw [hsame] at Q2'' ⊢
      have hstep := stepS_ok hfit hu0 hu1 o
      generalize stepS L u (cap0 lim) o = r at hstep Q1'' Q2'' ⊢
      obtain ⟨⟨ref, trap⟩, L', u'⟩ := r
      obtain ⟨s1, s2, s3, s4, s5, s6⟩ := hstep
      simp only at s1 s2 s3 s4 s5 s6 Q1'' Q2''
      simp only [nev_23, bne_self_eq_false, oS, wB, nf, vT, nev_3, pB, Bool.false_eq_true, if_false, gT]
      refine (used_ok Q1'').use ?_
      rintro v H6 ⟨rfl, rfl⟩ _ _
      refine (used_ok Q2'').use ?_
      rintro v H7 ⟨rfl, rfl⟩ F7 _
      simp only [nev_3, bne_self_eq_false, oS, pB, Bool.false_eq_true, if_false, cF, bin_add]
      rw [wrap_i64 (by omega) (by omega)]
      have hL' : L'.length ≤ k + 1 := by
        by_cases hmk : (0 ≤ o.kind ∧ o.kind ≤ 4) ∧ trap = 0
        · have := (s5 hmk.1 hmk.2).2; omega
        · have := s6 hmk; omega
      exact ⟨n - 1, by omega, rfl, F7, rfl, rfl, rfl, L', u', k + 1, lv1', lv2', tvs1', tvs2', own1', own2', by simp, by omega, hL', s1, by omega, s3, htwo', Q1'', Q2''⟩
  · intro _
    exact works_ok

section
open Go.ChangeShapes Go.WideShapes Go.ChangeAt Go.RowKit

theorem walk {W : World} {v2 : Value} {lim more : Int} (h1 : ∃ os, Script (envOf W) (oldV v2) os ∧ os.length < 2 ^ 62) : Calls Try.prog 5 #[.int .i64 lim, .int .i64 more, v2] W fun e w => e = .returned (.bool true) ∧ Kept W w := by
  obtain ⟨os, hv, hl⟩ := h1
  exact calls_law (more_ok hv hl)

theorem lifted (os : Os) (started : os.Started) (H : Type) (enc : TypeId × Value → H) :
    ReturnsInHanded {} Try.checked os 5 .any (Rows.heapMoreSpec.pre6 enc Try.prog Try.f5 Rows.heapMoreRow.domain false) (Rows.heapMoreSpec.post enc Try.prog Try.f5 false true false false) := by
  refine returnsInHanded_of_change_sized (C := Try.checked) hp.own started (by kernel_rfl) Try.func5
    (ChangeSpec.witness6 (enc := enc) (C := Try.checked) false ⟨#[], #[.int .i64 0, .int .i64 0, .slice none 0 0], []⟩ 8 (by kernel_rfl) (by kernel_rfl) (by kernel_rfl) (by kernel_rfl)) ?_
  intro W base args ds gs before hval0 hW hcnd hsz _
  have hW' := hW
  obtain ⟨p, q, hA0, hV, rfl, hfz, hnd⟩ := hW
  have hA : DataW.TrodAll enc Try.prog W 0 (fun _ => true) true Try.f5.params.toList args.toList ds p := hA0
  rw [Try.params5] at hA
  obtain ⟨v0, v1, v2, d0, d1, d2, p0, p1, p2, rfl, rfl, rfl, h0, h1, h2⟩ := trodAll_three hA
  obtain ⟨lim, rfl, _⟩ := open_int Try.underlying3 (hval0 0 3 v0 (by kernel_rfl) rfl) h0
  obtain ⟨more, rfl, _⟩ := open_int Try.underlying3 (hval0 1 3 v1 (by kernel_rfl) rfl) h1
  have k1 := script_of (W := W) (hval0 2 39 v2 (by kernel_rfl) rfl) h2 (fun n hn => by
    have := List.all_eq_true.1 hsz n (DataW.weights_mem_each (j := 2) (t := 39) (d := d2) (by kernel_rfl) rfl n hn)
    simpa using this)
  refine (walk k1).mono fun e W' ⟨he, hg⟩ => ?_
  subst he
  exact ⟨_, rfl, post_of_law (b := 4) hW' rfl laid (of_decide_eq_true (by kernel_rfl)) Try.underlying4 (by kernel_rfl) rfl rfl rfl hg⟩

theorem over : Rows.heapMoreRow.holds Try.pinned (OpenSpec.ofChange Rows.heapMoreSpec) :=
  OpenClaim.holds_of_wide 5 Try.f5 rfl rfl rfl rfl rfl rfl rfl ⟨rfl, rfl, rfl, rfl, rfl⟩ rfl rfl rfl rfl rfl (by kernel_rfl) Try.func5 (by kernel_rfl)
    (of_decide_eq_true (by kernel_rfl)) (by unfold Func.isWrapper; first | (rw [if_pos (by decide +kernel)]; kernel_rfl) | (rw [if_neg (by decide +kernel)]; exact ⟨rfl, rfl⟩))
    (fun os started H enc _ => lifted os started H enc)

theorem proved : Rows.HeapMoreSaid := over
end
end Go.Proofs.Ytjbpdmlpjgejcaa.heapMore
