/-
  Scripts: their calls, one by one.
-/
import Derived.Test.YtjbpdmlpjgejcaaDHu
import Derived.Test.YtjbpdmlpjgejcaaDTyd
open Go.Proofs Go Go.Am
namespace Go.Proofs.Ytjbpdmlpjgejcaa.hp
open Go.Proofs.Ytjbpdmlpjgejcaa.vcs Go.Proofs.Ytjbpdmlpjgejcaa.vd
set_option linter.unusedVariables false
set_option linter.unusedSimpArgs false
set_option maxRecDepth 100000

variable {E : Env} {w0 : World}
section
variable {H H' : AHeap} {kh : Nat} {lv : AV} {tvs : List AV} {L : List Th} {used limit : Int} {own own' : Own}

/-- A call's promise. -/
def Steps (own : Own) (H : AHeap) (kh : Nat) (limit : Int) (r : (Int × Int) × List Th × Int) (v : AV) (H' : AHeap) : Prop :=
  v = .tup [.int .u64 r.1.1, .int .i64 r.1.2] ∧ Now own H H' kh r.2.1 r.2.2 limit

theorem makes_steps {th : Th} {cost : Int} {v : AV} (h : Makes own H kh L used limit th cost v H') : Steps own H kh limit (makeS L used limit th cost) v H' := by
  unfold Makes at h
  unfold Steps makeS
  split at h
  · rename_i hr; rw [if_pos hr]; exact h
  · rename_i hr; rw [if_neg hr]; exact h

theorem run_ok (F : Fine H) (R : Rp H kh lv tvs L used limit own) (hlim : L.length + 1 < 2 ^ 40) (hs : Short L) {o : OpA} (ho : o.Ok E) : FnX Try.prog E w0 21 [.ptr (.new kh) 0, .agg o.cells] H (Steps own H kh limit (stepS L used limit o)) := by
  refine V21_ok ?_
  unfold V21
  obtain ⟨n1, n2, n3, F0⟩ := F.newCells o.cells
  have R0 : Rp (newCells H o.cells) kh lv tvs L used limit own := R.more F n2 (by omega) (fun _ _ => rfl) (fun k hk => R.high k (by omega))
  have lift : ∀ {L' : List Th} {used' : Int} {H'' : AHeap}, Now own (newCells H o.cells) H'' kh L' used' limit → Now own H H'' kh L' used' limit := fun h => h.from F n2 (by omega) (fun _ _ => rfl)
  have ld : ∀ j, loadCell E (newCells H o.cells) (.new H.next) j = o.cells[j]? := fun j => loadCell_new E n1 j
  have d0 : loadCell E (newCells H o.cells) (.new H.next) 0 = some (.int .i64 o.kind) := (ld 0).trans rfl
  have d1 : loadCell E (newCells H o.cells) (.new H.next) 1 = some (.str o.text) := (ld 1).trans rfl
  have d2 : loadCell E (newCells H o.cells) (.new H.next) 2 = some (.int .i64 o.n) := (ld 2).trans rfl
  have d3 : loadCell E (newCells H o.cells) (.new H.next) 3 = some (.int .i64 o.m) := (ld 3).trans rfl
  have d4 : loadCell E (newCells H o.cells) (.new H.next) 4 = some o.wv := (ld 4).trans rfl
  have d5 : loadCell E (newCells H o.cells) (.new H.next) 5 = some (.int .u64 o.ref) := (ld 5).trans rfl
  have d6 : loadCell E (newCells H o.cells) (.new H.next) 6 = some (.int .i64 o.i) := (ld 6).trans rfl
  have d7 : loadCell E (newCells H o.cells) (.new H.next) 7 = some (.int .u64 o.word) := (ld 7).trans rfl
  simp only [withW_eq, AV.cells, fa_43_0, fa_43_1, fa_43_2, fa_43_3, fa_43_4, fa_43_5, fa_43_6, fa_43_7, optW_some, ld_3, ld_9, ld_22, ld_23, ld_2, Nat.zero_add, Nat.add_zero, d0, d1, d2, d3, d4, d5, d6, d7, eqv_3, condW_bool, beq_iff_eq, beq_eq_false_iff_ne, ne_eq]
  unfold stepS
  refine ⟨fun h => ?_, fun h0 => ?_⟩
  · rw [if_pos h]
    refine (const_ok F0 R0 hlim).use ?_
    rintro v H' ⟨rfl, hn⟩ _ _
    exact ⟨rfl, lift hn⟩
  rw [if_neg h0]
  refine ⟨fun h => ?_, fun h1 => ?_⟩
  · rw [if_pos h]
    refine (text_ok F0 R0 hlim).use ?_
    intro v H' hm _ _
    by_cases hl : 65536 < o.text.length
    · rw [if_pos hl] at hm ⊢
      obtain ⟨rfl, hn⟩ := hm
      simp only [extractV_tup, List.getElem?_cons_zero, List.getElem?_cons_succ, optW_some]
      exact ⟨rfl, lift hn⟩
    · rw [if_neg hl] at hm ⊢
      obtain ⟨rfl, hn⟩ := makes_steps hm
      simp only [extractV_tup, List.getElem?_cons_zero, List.getElem?_cons_succ, optW_some]
      exact ⟨rfl, lift hn⟩
  rw [if_neg h1]
  refine ⟨fun h => ?_, fun h2 => ?_⟩
  · rw [if_pos h]
    refine (record_ok F0 R0 hlim ho.words ho.short).use ?_
    intro v H' hm _ _
    obtain ⟨rfl, hn⟩ := makes_steps hm
    simp only [extractV_tup, List.getElem?_cons_zero, List.getElem?_cons_succ, optW_some]
    exact ⟨rfl, lift hn⟩
  rw [if_neg h2]
  refine ⟨fun h => ?_, fun h3 => ?_⟩
  · rw [if_pos h]
    refine (fill_ok F0 R0 hlim).use ?_
    intro v H' hm _ _
    by_cases hl : o.m < 0 ∨ o.m > 65536
    · rw [if_pos hl] at hm ⊢
      obtain ⟨rfl, hn⟩ := hm
      simp only [extractV_tup, List.getElem?_cons_zero, List.getElem?_cons_succ, optW_some]
      exact ⟨rfl, lift hn⟩
    · rw [if_neg hl] at hm ⊢
      obtain ⟨rfl, hn⟩ := makes_steps hm
      simp only [extractV_tup, List.getElem?_cons_zero, List.getElem?_cons_succ, optW_some]
      exact ⟨rfl, lift hn⟩
  rw [if_neg h3]
  refine ⟨fun h => ?_, fun h4 => ?_⟩
  · rw [if_pos h]
    refine (empty_ok F0 R0 hlim).use ?_
    intro v H' hm _ _
    obtain ⟨rfl, hn⟩ := makes_steps hm
    simp only [extractV_tup, List.getElem?_cons_zero, List.getElem?_cons_succ, optW_some]
    exact ⟨rfl, lift hn⟩
  rw [if_neg h4]
  refine ⟨fun h => ?_, fun h5 => ?_⟩
  · rw [if_pos h]
    refine (get_ok R0 hs ho.ref.1 ho.ref.2).use ?_
    rintro v H' ⟨rfl, rfl⟩ _ _
    simp only [extractV_tup, List.getElem?_cons_zero, List.getElem?_cons_succ, optW_some]
    exact ⟨rfl, lift (Now.refl R0)⟩
  rw [if_neg h5]
  refine ⟨fun h => ?_, fun h6 => ?_⟩
  · rw [if_pos h]
    refine (set_ok F0 R0 hs ho.ref.1 ho.ref.2).use ?_
    rintro v H' ⟨rfl, R1, ho1, hn1⟩ _ _
    exact ⟨rfl, lift ⟨_, _, own, R1, fun _ _ => rfl, ho1⟩⟩
  rw [if_neg h6]
  refine ⟨fun h => ?_, fun h7 => ?_⟩
  · rw [if_pos h]
    refine (push_ok F0 R0 hs ho.ref.1 ho.ref.2).use ?_
    rintro v H' ⟨rfl, hn⟩ _ _
    exact ⟨rfl, lift hn⟩
  rw [if_neg h7]
  refine (drop_ok F0 R0 hs ho.ref.1 ho.ref.2).use ?_
  rintro v H' ⟨rfl, hn⟩ _ _
  simp only [extractV_tup, List.getElem?_cons_zero, List.getElem?_cons_succ, optW_some]
  exact ⟨rfl, lift hn⟩
end

/-- A script of the caller's. -/
def Script (E : Env) (v : AV) (os : List OpA) : Prop :=
  (v = .nilSlc ∧ os = []) ∨ ∃ b i cap ex sz, v = .slc (.old b) i os.length cap ex sz ∧ ∀ k o, os[k]? = some o → o.Ok E ∧ ∃ cs, E b = some cs ∧ (cs.drop (i + k * 8)).take 8 = o.cells

theorem Script.len {v : AV} {os : List OpA} (h : Script E v os) (H : AHeap) : lenV Try.prog H 39 v = some (.int .i64 os.length) := by
  rcases h with ⟨rfl, rfl⟩ | ⟨b, i, cap, ex, sz, rfl, _⟩ <;> simp
theorem Script.at {v : AV} {os : List OpA} (h : Script E v os) {k : Nat} (hk : k < os.length) : ∃ (o : OpA) (b i : Nat), os[k]? = some o ∧ o.Ok E ∧ indexAtA Try.prog 39 v (.int .i64 (k : Int)) = some (.ptr (.old b) i) ∧
    (∀ H, loadV Try.prog E H 43 (.ptr (.old b) i) = some (.agg o.cells)) ∧ ∀ H j, j < 8 → loadCell E H (.old b) (i + j) = o.cells[j]? := by
  rcases h with ⟨rfl, rfl⟩ | ⟨b, i, cap, ex, sz, rfl, h⟩
  · simp at hk
  · obtain ⟨ho, cs, h1, h2⟩ := h k os[k] (List.getElem?_eq_getElem hk)
    refine ⟨os[k], b, i + k * 8, List.getElem?_eq_getElem hk, ho, ?_, fun H => ?_, fun H j hj => ?_⟩
    · rw [ix_39, if_pos ⟨by omega, by omega⟩]; simp
    · have hl := congrArg List.length h2
      simp only [List.length_take, List.length_drop, OpA.cells, List.length_cons, List.length_nil] at hl
      rw [ld_43]
      simp only [loadRange, cellsOf, h1]
      rw [if_pos (by omega), h2]
      rfl
    · simp only [loadCell, cellsOf, h1]
      rw [← h2, List.getElem?_take, if_pos hj, List.getElem?_drop]

theorem short_ok {v : AV} {os : List OpA} (hv : Script E v os) (hl : os.length < 2 ^ 62) {H : AHeap} : FnX Try.prog E w0 20 [v] H fun r H' => H' = H ∧ ∃ b, r = .bool b ∧ (b = true → os.length ≤ 200) := by
  refine V20_ok ?_
  unfold V20
  refine loop20_0 (I := fun n t0 t3 t4 H' => v = t0 ∧ H' = H ∧ (∃ z, t3 = .int .i64 z) ∧ ∃ k : Nat, t4 = .int .i64 (k : Int) ∧ k + n = os.length) ?_ (n := os.length) ⟨rfl, rfl, ⟨_, rfl⟩, 0, rfl, by omega⟩
  rintro n _ _ _ H' ⟨rfl, rfl, ⟨z, rfl⟩, k, rfl, hk⟩
  intros
  unfold B20_0
  rw [hv.len, optW_some, bin_lss, optW_some]
  by_cases hz : z ≥ 0
  · by_cases hlt : (k : Int) < os.length
    · obtain ⟨o, b, i, e0, ho, e1, e2, e3⟩ := hv.at (k := k) (by omega)
      simp only [hlt, hz, decide_true, wantsA_bool, beq_self_eq_true, valG_true, optW_some, bin_geq, pickV_bool, if_true, condW_true]
      simp only [e1, optW_some, fa_43_1, fa_43_3, fa_43_4, ld_9, ld_22, ld_3, e3 _ _ (show 1 < 8 by omega), e3 _ _ (show 3 < 8 by omega), e3 _ _ (show 4 < 8 by omega), OpA.cells, List.getElem?_cons_zero, List.getElem?_cons_succ, len_9, bin_sub, ho.words.len, max_i, min_i, bin_add, true_and]
      rw [wrap_i64 (n := (k : Int) + 1) (by omega) (by omega)]
      exact ⟨n - 1, by omega, rfl, rfl, rfl, ⟨_, rfl⟩, k + 1, by simp, by omega⟩
    · simp only [hlt, hz, decide_true, decide_false, wantsA_bool, show (false == true) = false from rfl, valG_false, optW_some, pickV_bool, Bool.false_eq_true, if_false, condW_false, bin_geq, beq_self_eq_true, valG_true, hv.len, bin_leq, if_true]
      exact ⟨by trivial, _, rfl, fun h => by have := of_decide_eq_true h; omega⟩
  · by_cases hlt : (k : Int) < os.length
    · simp only [hlt, hz, decide_true, decide_false, wantsA_bool, beq_self_eq_true, valG_true, optW_some, bin_geq, pickV_bool, if_true, condW_false, show (false == true) = false from rfl, valG_false, Bool.false_eq_true, if_false]
      exact ⟨by trivial, _, rfl, fun h => by cases h⟩
    · simp only [hlt, hz, decide_false, wantsA_bool, show (false == true) = false from rfl, valG_false, optW_some, pickV_bool, Bool.false_eq_true, if_false, condW_false, bin_geq]
      exact ⟨by trivial, _, rfl, fun h => by cases h⟩

/-- Nothing holds more words than were paid for. -/
def Fits (L : List Th) (used : Int) : Prop := ∀ th ∈ L, ∀ ws, th.words = some ws → (ws.length : Int) ≤ used

theorem Fits.short {L : List Th} {used limit : Int} (h : Fits L used) (hu : used < 2 ^ 40) : Short L := by
  intro th ht ws hw
  have := h th ht ws hw
  omega
theorem Fits.more {L : List Th} {used used' : Int} (h : Fits L used) (hu : used ≤ used') : Fits L used' := fun th ht ws hw => by
  have := h th ht ws hw
  omega
theorem Fits.add {L : List Th} {used : Int} (h : Fits L used) {th : Th} (ht : ∀ ws, th.words = some ws → (ws.length : Int) ≤ used) : Fits (L ++ [th]) used := by
  intro t hm ws hw
  rcases List.mem_append.1 hm with hm | hm
  · exact h t hm ws hw
  · simp only [List.mem_cons, List.not_mem_nil, or_false] at hm
    subst hm
    exact ht ws hw
theorem Fits.put {L : List Th} {used : Int} (h : Fits L used) {th : Th} {i : Nat} (ht : ∀ ws, th.words = some ws → (ws.length : Int) ≤ used) : Fits (L.set i th) used := by
  intro t hm ws hw
  rcases List.mem_or_eq_of_mem_set hm with hm | rfl
  · exact h t hm ws hw
  · exact ht ws hw

/-- What a call does to what was paid for. -/
structure StepOk (L : List Th) (used limit : Int) (o : OpA) (r : (Int × Int) × List Th × Int) : Prop where
  fits : Fits r.2.1 r.2.2
  up : used ≤ r.2.2
  lim : r.2.2 ≤ limit
  trap : r.1.2 ≠ 0 → r.1.1 = 0 ∧ r.2.2 = used
  made : 0 ≤ o.kind ∧ o.kind ≤ 4 → r.1.2 = 0 → r.1.1 = (L.length + 1 : Nat) ∧ r.2.1.length = L.length + 1
  kept : ¬ ((0 ≤ o.kind ∧ o.kind ≤ 4) ∧ r.1.2 = 0) → r.2.1.length = L.length

theorem makeS_ok {L : List Th} {used limit : Int} (h : Fits L used) (hl : used ≤ limit) {o : OpA} (hk : 0 ≤ o.kind ∧ o.kind ≤ 4) {th : Th} {cost : Int} (hc : 0 ≤ cost) (ht : ∀ ws, th.words = some ws → (ws.length : Int) ≤ cost) (h0 : 0 ≤ used) :
    StepOk L used limit o (makeS L used limit th cost) := by
  unfold makeS
  split
  · rename_i hroom
    refine ⟨(h.more (by simp only; omega)).add (fun ws hw => by have := ht ws hw; simp only; omega), by simp only; omega, by simp only; omega, fun h => (h rfl).elim, fun _ _ => ⟨rfl, by simp⟩, fun hn => (hn ⟨hk, rfl⟩).elim⟩
  · exact ⟨h, Int.le_refl _, hl, fun _ => ⟨rfl, rfl⟩, fun _ h => by simp at h, fun _ => rfl⟩

theorem same_ok {L : List Th} {used limit : Int} (h : Fits L used) (hl : used ≤ limit) {o : OpA} {t : Int} (hk : ¬ (0 ≤ o.kind ∧ o.kind ≤ 4) ∨ t ≠ 0) : StepOk L used limit o ((0, t), L, used) :=
  ⟨h, Int.le_refl _, hl, fun _ => ⟨rfl, rfl⟩, fun hk' ht => hk.elim (fun hk => (hk hk').elim) (fun hk => (hk ht).elim), fun _ => rfl⟩

theorem setL_fits {L : List Th} {used : Int} (h : Fits L used) (ref i w : Int) : Fits (setL L ref i w) used ∧ (setL L ref i w).length = L.length := by
  unfold setL
  cases hth : thAt L ref with
  | none => exact ⟨h, rfl⟩
  | some th =>
    simp only
    cases hw : th.words with
    | none => exact ⟨h, rfl⟩
    | some ws =>
      simp only
      have := h th (thAt_mem hth) ws hw
      split
      · refine ⟨h.put fun ws' hw' => ?_, by simp⟩
        cases th with
        | text s => cases hw
        | flat t x => cases hw'; simpa using this
        | grow t x => cases hw'; simpa using this
      · exact ⟨h, rfl⟩

theorem growAt_mem {L : List Th} {ref t : Int} {ws : List Int} (h : growAt L ref = some (t, ws)) : .grow t ws ∈ L := by
  unfold growAt at h
  split at h
  · rename_i t' ws' e; cases h; exact thAt_mem e
  · cases h

theorem stepS_ok {L : List Th} {used limit : Int} (h : Fits L used) (h0 : 0 ≤ used) (hl : used ≤ limit) (o : OpA) : StepOk L used limit o (stepS L used limit o) := by
  unfold stepS
  split
  · rename_i k0
    exact ⟨h.add (fun ws hw => by cases hw), Int.le_refl _, hl, fun e => (e rfl).elim, fun _ _ => ⟨rfl, by simp⟩, fun hn => (hn ⟨by omega, rfl⟩).elim⟩
  split
  · split
    · exact same_ok h hl (.inr (by decide))
    · exact makeS_ok h hl (by omega) (by unfold textCost; omega) (fun ws hw => by cases hw) h0
  split
  · exact makeS_ok h hl (by omega) (by omega) (fun ws hw => by cases hw; omega) h0
  split
  · split
    · exact same_ok h hl (.inr (by decide))
    · exact makeS_ok h hl (by omega) (by omega) (fun ws hw => by cases hw; simp; omega) h0
  split
  · exact makeS_ok h hl (by omega) (by omega) (fun ws hw => by cases hw; simp) h0
  split
  · exact same_ok h hl (.inl (by omega))
  split
  · obtain ⟨a, b⟩ := setL_fits h o.ref o.i o.word
    exact ⟨a, Int.le_refl _, hl, fun _ => ⟨rfl, rfl⟩, fun hk => by omega, fun _ => b⟩
  split
  · unfold pushR pushL pushU
    cases hg : growAt L o.ref with
    | none => exact same_ok h hl (.inl (by omega))
    | some x =>
      obtain ⟨t, ws⟩ := x
      have hm := h _ (growAt_mem hg) ws rfl
      simp only
      split
      · exact same_ok h hl (.inl (by omega))
      · split
        · exact ⟨(h.more (by simp only; omega)).put (fun ws' hw' => by cases hw'; simp; omega), by simp only; omega, by simp only; omega, fun e => (e rfl).elim, fun hk => by omega, fun _ => by simp⟩
        · exact same_ok h hl (.inl (by omega))
  · unfold dropR dropL
    cases hg : growAt L o.ref with
    | none => exact ⟨h, Int.le_refl _, hl, fun _ => ⟨rfl, rfl⟩, fun hk => by omega, fun _ => rfl⟩
    | some x =>
      obtain ⟨t, ws⟩ := x
      have hm := h _ (growAt_mem hg) ws rfl
      simp only
      split
      · exact ⟨h, Int.le_refl _, hl, fun _ => ⟨rfl, rfl⟩, fun hk => by omega, fun _ => rfl⟩
      · exact ⟨h.put (fun ws' hw' => by cases hw'; simp only [List.length_take]; omega), Int.le_refl _, hl, fun _ => ⟨rfl, rfl⟩, fun hk => by omega, fun _ => by simp⟩
end Go.Proofs.Ytjbpdmlpjgejcaa.hp
