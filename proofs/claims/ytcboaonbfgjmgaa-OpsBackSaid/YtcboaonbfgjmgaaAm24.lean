/-
  Regions that draw their order: what a run in the order of the text has looked at.
-/
import Derived.Test.YtcboaonbfgjmgaaAm23
namespace Go.Am
section
variable (P : Program) (E : Env) (call : CallF) (ops : Array Oper)

/-- Over this heap an operation leaves what it left. -/
def Ev (M : AHeap) (d : Done) : Prop := ∃ H', stepA P E call ops d.T (atN M d.lo) d.o = some (d.v, H') ∧ H'.next = d.hi ∧ keep d.lo d.hi H' = d.kv

structure Good (H : AHeap) (T0 : List AV) (ds : List Done) (T : List AV) (n : Nat) : Prop where
  ch : Ch H.next ds n
  row : T = foldT (fun _ => true) 0 ds T0
  op : ∀ (i : Nat) (d : Done), ds[i]? = some d → ops[i]? = some d.o
  anc : ∀ (i : Nat) (d : Done), ds[i]? = some d → ancOf (ds.take i) d.o.after.toList 0 = some d.anc
  old : ∀ (i : Nat) (d : Done), ds[i]? = some d → d.T = foldT (fun _ => true) 0 (ds.take i) T0
  apart : ∀ (i j : Nat) (d e : Done), j < i → ds[i]? = some d → ds[j]? = some e → d.anc.testBit j = true ∨ d.o.apart ops e.o = true
  ev : ∀ (i : Nat) (d : Done), ds[i]? = some d → Ev P E call ops (maskR d.lo (fun j _ => d.anc.testBit j) 0 (ds.take i) H) d
  wrs : ∀ (i m : Nat) (d e : Done), ds[i]? = some d → ds[m]? = some e → e.wr = true → m ≠ i → d.anc.testBit m = false → (i < m → e.anc.testBit i = false) →
    d.wr = false ∧ Ev P E call ops (maskR d.lo (fun x f => d.anc.testBit x || (f.wr && decide (x ≤ m))) 0 (ds.take (max i (m + 1))) H) d ∧ (i < m → ∀ k ∈ e.kv.map (·.1), k < d.lo ∨ d.hi ≤ k)
end

section
variable {P : Program} {E : Env} {call : CallF} {ops : Array Oper}

theorem againD_ev {M : AHeap} {d : Done} (h : againD P E call ops M d = true) : Ev P E call ops M d := by
  unfold againD at h
  split at h
  · rename_i v H' h1
    simp only [Bool.and_eq_true, beq_iff_eq] at h
    obtain ⟨⟨⟨a, b⟩, c⟩, e⟩ := h
    rw [← sameA_eq _ _ a] at h1
    exact ⟨H', h1, b, (sameKV_eq e).symm⟩
  · cases h

theorem snoc_get {α : Type} {ds : List α} {d x : α} {i : Nat} (h : (ds ++ [d])[i]? = some x) : (i < ds.length ∧ ds[i]? = some x) ∨ (i = ds.length ∧ x = d) := by
  rw [List.getElem?_append] at h
  split at h
  · rename_i hl; exact .inl ⟨hl, h⟩
  · rename_i hl
    right
    by_cases e : i = ds.length
    · subst e; simp at h; exact ⟨rfl, h.symm⟩
    · rw [List.getElem?_eq_none (by simp; omega)] at h; cases h

theorem foldT_snoc {D : Nat → Bool} : ∀ (ds : List Done) (j : Nat) (d : Done) (T : List AV), foldT D j (ds ++ [d]) T = (if D (j + ds.length) then putA (foldT D j ds T) d.o.dst d.v else foldT D j ds T)
  | [], j, d, T => by simp [foldT]
  | e :: ds, j, d, T => by
    simp only [List.cons_append, foldT, List.length_cons]
    rw [foldT_snoc ds, show j + 1 + ds.length = j + (ds.length + 1) by omega]

theorem Good.snoc {H : AHeap} {T0 : List AV} {ds : List Done} {T : List AV} {n : Nat} (hw : Wf H) (hc : CallTrs call) (G : Good P E call ops H T0 ds T n) {o : Oper} (ho : ops[ds.length]? = some o) {anc : Nat}
    (hanc : ancOf ds o.after.toList 0 = some anc) (hap : allI (fun j e => anc.testBit j || o.apart ops e.o) 0 ds = true) {v : AV} {H' : AHeap}
    (hst : stepA P E call ops T (atN (maskR n (fun j _ => anc.testBit j) 0 ds H) n) o = some (v, H')) {d : Done}
    (hd : d = ⟨o, anc, T, v, n, H'.next, !(H'.log.all fun k => decide (n ≤ k)), keep n H'.next H'⟩) (hchk : checkD P E call ops H ds d = true) :
    Good P E call ops H T0 (ds ++ [d]) (putA T o.dst v) H'.next := by
  have hle := G.ch.le
  have hwm := mask_wf hw hle (fun j _ => anc.testBit j) 0 ds
  obtain ⟨ts, e1, e2, e3, _⟩ := stepA_trs hc hwm hst
  have hn : n ≤ H'.next := by rw [e1]; exact e2.1
  have hlog : ∀ k ∈ H'.log, k < H'.next := by
    intro k hk
    rw [e1, log_aps] at hk
    rcases hk with hk | ⟨x, hk⟩
    · simp [atN] at hk
    · rw [e1]; exact (e2.2 _ _ _ hk).2
  have hkeys : ∀ k ∈ (keep n H'.next H').map (·.1), k < H'.next := by
    intro k hk
    rcases keep_key.1 hk with hk | hk
    · exact hlog k hk.1
    · exact hk.2.1
  have okd : Ok d := by
    subst hd
    refine ⟨hn, ⟨H'.get, keep_val⟩, hkeys, ?_, ?_⟩
    · intro hwr k hk
      simp only [Bool.not_eq_false'] at hwr
      rcases keep_key.1 hk with hk | hk
      · exact of_decide_eq_true (List.all_eq_true.1 hwr k hk.1)
      · exact hk.1
    · intro k x hx p hp
      have := keep_val _ hx
      exact e3.2 k x this.symm p hp
  have hlo : d.lo = n := by rw [hd]
  have hhi : d.hi = H'.next := by rw [hd]
  have hdo : d.o = o := by rw [hd]
  have hdv : d.v = v := by rw [hd]
  have hdanc : d.anc = anc := by rw [hd]
  have hdT : d.T = T := by rw [hd]
  refine ⟨?_, ?_, ?_, ?_, ?_, ?_, ?_, ?_⟩
  · rw [← hhi]; exact Ch.snoc (by rw [hlo]; exact G.ch) okd
  · rw [foldT_snoc, if_pos rfl, ← G.row, hdo, hdv]
  · intro i x hx
    rcases snoc_get hx with ⟨_, h⟩ | ⟨rfl, rfl⟩
    · exact G.op i x h
    · rw [hdo]; exact ho
  · intro i x hx
    rcases snoc_get hx with ⟨hl, h⟩ | ⟨rfl, rfl⟩
    · rw [List.take_append_of_le_length (by omega)]; exact G.anc i x h
    · rw [List.take_append_of_le_length (Nat.le_refl _), List.take_length, hdo, hdanc]; exact hanc
  · intro i x hx
    rcases snoc_get hx with ⟨hl, h⟩ | ⟨rfl, rfl⟩
    · rw [List.take_append_of_le_length (by omega)]; exact G.old i x h
    · rw [List.take_append_of_le_length (Nat.le_refl _), List.take_length, hdT]; exact G.row
  · intro i j x y hij hx hy
    rcases snoc_get hx with ⟨hl, h⟩ | ⟨rfl, rfl⟩
    · rcases snoc_get hy with ⟨hl', h'⟩ | ⟨rfl, rfl⟩
      · exact G.apart i j x y hij h h'
      · omega
    · rcases snoc_get hy with ⟨hl', h'⟩ | ⟨rfl, rfl⟩
      · have := allI_spec hap j y h'
        simp only [Nat.zero_add, Bool.or_eq_true] at this
        rw [hdanc, hdo]; exact this
      · omega
  · intro i x hx
    rcases snoc_get hx with ⟨hl, h⟩ | ⟨rfl, rfl⟩
    · rw [List.take_append_of_le_length (by omega)]; exact G.ev i x h
    · rw [List.take_append_of_le_length (Nat.le_refl _), List.take_length, hlo, hdanc]
      refine ⟨H', ?_, hhi.symm, ?_⟩
      · rw [hdT, hlo, hdo, hdv]; exact hst
      · rw [hlo, hhi, hd]
  · intro i m x y hx hy hyw hmi hanx hany
    rcases snoc_get hx with ⟨hl, h⟩ | ⟨rfl, rfl⟩
    · rcases snoc_get hy with ⟨hl', h'⟩ | ⟨rfl, rfl⟩
      · rw [List.take_append_of_le_length (by omega)]; exact G.wrs i m x y h h' hyw hmi hanx hany
      · have hany' := hany hl
        unfold checkD at hchk
        rw [if_pos hyw] at hchk
        have := allI_spec hchk i x h
        simp only [Nat.zero_add, Bool.or_eq_true, Bool.and_eq_true, Bool.not_eq_true', hany', Bool.false_eq_true, false_or] at this
        obtain ⟨⟨a1, a2⟩, a3⟩ := this
        refine ⟨a1, ?_, fun _ k hk => ?_⟩
        · have hmax : max i (ds.length + 1) = ds.length + 1 := by omega
          have htake : (ds ++ [y]).take (ds.length + 1) = ds ++ [y] := List.take_of_length_le (by simp)
          rw [hmax, htake]
          rw [maskR_congr (p := fun x_1 f => x.anc.testBit x_1 || (f.wr && decide (x_1 ≤ ds.length))) (q := fun x_1 f => x.anc.testBit x_1 || f.wr)]
          · exact againD_ev a3
          · intro i' e' he'
            have hi' : i' ≤ ds.length := by
              rcases snoc_get he' with ⟨q, _⟩ | ⟨q, _⟩ <;> omega
            simp [hi']
        · simp only [List.mem_map] at hk
          obtain ⟨z, hz, rfl⟩ := hk
          have := List.all_eq_true.1 a2 z hz
          simpa using this
    · rcases snoc_get hy with ⟨hl', h'⟩ | ⟨rfl, rfl⟩
      · cases hxw : x.wr with
        | true =>
          unfold checkD at hchk
          rw [if_pos hxw] at hchk
          have := allI_spec hchk m y h'
          simp only [Nat.zero_add, Bool.or_eq_true, Bool.and_eq_true, Bool.not_eq_true', hanx, hyw, Bool.false_eq_true, false_or, Bool.true_eq_false, false_and] at this
        | false =>
          unfold checkD at hchk
          rw [if_neg (by rw [hxw]; exact Bool.false_ne_true)] at hchk
          have := allI_spec hchk m y h'
          simp only [Nat.zero_add, Bool.or_eq_true, Bool.not_eq_true', hanx, hyw, Bool.false_eq_true, Bool.true_eq_false, false_or] at this
          refine ⟨rfl, ?_, fun q => by omega⟩
          have hmax : max ds.length (m + 1) = ds.length := by omega
          rw [hmax, List.take_append_of_le_length (Nat.le_refl _), List.take_length]
          exact againD_ev this
      · exact (hmi rfl).elim

theorem log_aps_eq : ∀ (ts : List Tr) {A B : AHeap}, A.log = B.log → (aps ts A).log = (aps ts B).log
  | [], _, _, h => h
  | t :: ts, A, B, h => log_aps_eq ts (by cases t <;> simp only [Tr.ap, h])

/-- A step over a mask, and over the same mask of a heap with more in it. -/
theorem step_both (hc : CallTrs call) {M H : AHeap} (hw : Wf M) (hs : ∀ k o, M.get k = some o → H.get k = some o) {lim : Nat} (hl : M.next ≤ lim) {p : Nat → Done → Bool} {j : Nat} {ds : List Done} {T : List AV} {o : Oper} {v : AV} {M1 : AHeap}
    (h : stepA P E call ops T (atN (maskR lim p j ds M) lim) o = some (v, M1)) (hf : ∀ k, lim ≤ k → k < M1.next → H.get k = none) :
    ∃ H1, stepA P E call ops T (atN (maskR lim p j ds H) lim) o = some (v, H1) ∧ H1.next = M1.next ∧ H1.log = M1.log ∧ keep lim M1.next H1 = keep lim M1.next M1 := by
  have hwm := mask_wf hw hl p j ds
  obtain ⟨ts, e1, e2, e3, e4⟩ := stepA_trs hc hwm h
  have hsub : Sub (atN (maskR lim p j ds M) lim) (atN (maskR lim p j ds H) lim) := ⟨maskR_sub ds j hs, rfl, rfl⟩
  have hfr : Free (atN (maskR lim p j ds H) lim) (atN (maskR lim p j ds M) lim).next M1.next := by
    intro k h1 h2
    have h1' : lim ≤ k := h1
    show (maskR lim p j ds H).get k = none
    rw [maskR_above ds j h1']
    exact hf k h1' h2
  refine ⟨_, e4 _ hsub hfr, ?_, ?_, ?_⟩
  · rw [e1]; exact next_aps_eq ts rfl
  · rw [e1]; exact log_aps_eq ts rfl
  · have hget : ∀ k, (k ∈ M1.log ∨ (lim ≤ k ∧ k < M1.next)) → (aps ts (atN (maskR lim p j ds H) lim)).get k = M1.get k := by
      intro k hk
      rw [e1]
      refine aps_touched ts _ _ k ?_
      rcases hk with hk | ⟨h1, h2⟩
      · rw [e1, log_aps] at hk
        rcases hk with hk | ⟨x, hx⟩
        · simp [atN] at hk
        · exact .inr ⟨x, true, hx⟩
      · left
        rw [hfr k h1 h2, hwm.1 k h1]
    have hlog : (aps ts (atN (maskR lim p j ds H) lim)).log = M1.log := by rw [e1]; exact log_aps_eq ts rfl
    unfold keep
    rw [hlog]
    rw [List.filter_congr (l := List.range' lim (M1.next - lim)) (q := fun k => (M1.get k).isSome) fun k hk => by
      have := List.mem_range'_1.1 hk
      rw [hget k (.inr ⟨this.1, by omega⟩)]]
    refine List.map_congr_left fun k hk => ?_
    rw [hget k]
    rcases List.mem_append.1 hk with hk | hk
    · exact .inl (List.mem_filter.1 hk).1
    · have := List.mem_range'_1.1 (List.mem_filter.1 hk).1
      exact .inr ⟨this.1, by omega⟩

theorem againD_sub (hc : CallTrs call) {M H : AHeap} (hw : Wf M) (hs : ∀ k o, M.get k = some o → H.get k = some o) {d : Done} (hl : M.next ≤ d.lo) {p : Nat → Done → Bool} {j : Nat} {ds : List Done}
    (hf : ∀ k, d.lo ≤ k → k < d.hi → H.get k = none) (h : againD P E call ops (maskR d.lo p j ds M) d = true) : againD P E call ops (maskR d.lo p j ds H) d = true := by
  unfold againD at h ⊢
  split at h
  · rename_i v M1 h1
    simp only [Bool.and_eq_true, beq_iff_eq] at h
    obtain ⟨⟨⟨a, b⟩, c⟩, e⟩ := h
    obtain ⟨H1, g1, g2, g3, g4⟩ := step_both hc hw hs hl h1 (by rw [b]; exact hf)
    rw [g1]
    simp only [Bool.and_eq_true, beq_iff_eq]
    rw [b] at g4
    exact ⟨⟨⟨a, by rw [g2, b]⟩, by rw [g3]; exact c⟩, by rw [g4]; exact e⟩
  · cases h

theorem allI_mono {p q : Nat → Done → Bool} : ∀ {ds : List Done} {j : Nat}, allI p j ds = true → (∀ (i : Nat) (d : Done), ds[i]? = some d → p (j + i) d = true → q (j + i) d = true) → allI q j ds = true
  | [], j, _, _ => rfl
  | x :: ds, j, h, hpq => by
    simp only [allI, Bool.and_eq_true] at h ⊢
    exact ⟨hpq 0 x rfl h.1, allI_mono h.2 fun i d e hp => by
      have := hpq (i + 1) d (by simpa using e)
      rw [show j + (i + 1) = j + 1 + i by omega] at this
      exact this hp⟩

theorem checkD_sub (hc : CallTrs call) {M H : AHeap} (hw : Wf M) (hs : ∀ k o, M.get k = some o → H.get k = some o) {ds : List Done} {d : Done} {n : Nat} (hch : Ch M.next ds d.lo) (hd : d.lo ≤ d.hi) (hn : d.hi ≤ n)
    (hf : Free H M.next n) (h : checkD P E call ops M ds d = true) : checkD P E call ops H ds d = true := by
  unfold checkD at h ⊢
  split
  · rename_i hwr
    rw [if_pos hwr] at h
    refine allI_mono h fun i e he hp => ?_
    simp only [Bool.or_eq_true, Bool.and_eq_true] at hp ⊢
    rcases hp with hp | ⟨a, b⟩
    · exact .inl hp
    · obtain ⟨k1, k2, k3⟩ := hch.at i e he
      exact .inr ⟨a, againD_sub hc hw hs k2 (fun k h1 h2 => hf k (by omega) (by omega)) b⟩
  · rename_i hwr
    rw [if_neg hwr] at h
    refine allI_mono h fun i e he hp => ?_
    simp only [Bool.or_eq_true] at hp ⊢
    rcases hp with hp | b
    · exact .inl hp
    · have := hch.le
      exact .inr (againD_sub hc hw hs hch.le (fun k h1 h2 => hf k (by omega) (by omega)) b)

theorem drawA_good (hc : CallTrs call) {H : AHeap} (hw : Wf H) {T0 : List AV} : ∀ (l : List Oper) (ds : List Done) (T : List AV) (n : Nat) (T' : List AV) (H' : AHeap), Good P E call ops H T0 ds T n → ops.toList.drop ds.length = l →
    drawA P E call ops l ds T H n = some (T', H') → ∃ dsF nF, Good P E call ops H T0 dsF T' nF ∧ dsF.length = ops.size ∧ H' = { allR dsF H with next := nF } ∧ n ≤ nF ∧
      ∀ K : AHeap, (∀ k o, H.get k = some o → K.get k = some o) → Free K H.next nF → drawA P E call ops l ds T K n = some (T', { allR dsF K with next := nF })
  | [], ds, T, n, T', H', G, hl, h => by
    simp only [drawA] at h
    cases h
    refine ⟨ds, n, G, ?_, rfl, Nat.le_refl _, fun K _ _ => by simp only [drawA]⟩
    have h1 : ops.size ≤ ds.length := by
      have := congrArg List.length hl
      simp only [List.length_drop, Array.length_toList, List.length_nil] at this
      omega
    cases hds : ds.length with
    | zero => omega
    | succ m =>
      have := G.op m (ds[m]'(by omega)) (List.getElem?_eq_getElem (by omega))
      have := Array.getElem?_eq_some_iff.1 this
      obtain ⟨q, _⟩ := this
      omega
  | o :: l, ds, T, n, T', H', G, hl, h => by
    have ho : ops[ds.length]? = some o := by
      have : (ops.toList.drop ds.length)[0]? = some o := by rw [hl]; rfl
      rw [List.getElem?_drop] at this
      simpa using this
    have hdr : ∀ d : Done, ops.toList.drop (ds ++ [d]).length = l := by
      intro d
      have := congrArg List.tail hl
      rw [List.tail_drop] at this
      simpa using this
    simp only [drawA] at h
    split at h
    · rename_i anc hanc
      split at h
      · rename_i hap
        split at h
        · rename_i v H1 hst
          split at h
          · rename_i hchk
            have G' := Good.snoc hw hc G ho hanc hap hst rfl hchk
            obtain ⟨dsF, nF, g1, g2, g3, g4, g5⟩ := drawA_good hc hw l _ _ _ _ _ G' (hdr _) h
            have hn1 : n ≤ H1.next := by
              obtain ⟨ts, e1, e2, e3, _⟩ := stepA_trs hc (mask_wf hw G.ch.le _ 0 ds) hst
              rw [e1]; exact e2.1
            have hle := G.ch.le
            refine ⟨dsF, nF, g1, g2, g3, Nat.le_trans hn1 g4, fun K hK hfK => ?_⟩
            obtain ⟨K1, k1, k2, k3, k4⟩ := step_both hc hw hK hle hst (fun k h1 h2 => hfK k (by omega) (by omega))
            have hchk' := checkD_sub hc hw hK (d := ⟨o, anc, T, v, n, H1.next, !(H1.log.all fun k => decide (n ≤ k)), keep n H1.next H1⟩) G.ch hn1 g4 hfK hchk
            have := g5 K hK hfK
            simp only [drawA, hanc, hap, if_true, k1, k2, k3, k4, hchk']
            exact this
          · cases h
        · cases h
      · cases h
    · cases h
end
end Go.Am
