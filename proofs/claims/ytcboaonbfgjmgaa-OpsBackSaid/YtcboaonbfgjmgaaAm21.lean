/-
  Steps: what they look at, and what they do over a heap with more in it.
-/
import Derived.Test.YtcboaonbfgjmgaaAm20
namespace Go.Am
section
variable {E : Env} {P : Program}

theorem callA_congr {T T' : List AV} {H : AHeap} (c : Call) (h : ∀ x ∈ c.operands, aEval T x = aEval T' x) : callA P E H c (aEval T) = callA P E H c (aEval T') := by
  have hargs : c.args.toList.map (aEval T) = c.args.toList.map (aEval T') := List.map_congr_left fun x hx => h x (by
    have : x ∈ c.args := by simpa using hx
    simp [Call.operands, this])
  unfold callA
  simp only [hargs]
  cases hc : c.callee with
  | value f => have hf : aEval T f = aEval T' f := h f (by simp [Call.operands, hc]); simp only [hf]
  | invoke r m => have hr : aEval T r = aEval T' r := h r (by simp [Call.operands, hc]); simp only [hr]
  | builtin b => rfl

theorem opA_congr {T T' : List AV} {H : AHeap} (o : Oper) (h : ∀ x ∈ o.op.operands, aEval T x = aEval T' x) : opA P E T H o = opA P E T' H o := by
  obtain ⟨dst, op, type, pos, after, guard⟩ := o
  have pairs : ∀ ps : Array (Nat × Operand), (∀ x ∈ ps.map (·.2), aEval T x = aEval T' x) →
      (ps.toList.map fun (p : Nat × Operand) => (p.1, aEval T p.2)) = (ps.toList.map fun (p : Nat × Operand) => (p.1, aEval T' p.2)) := fun ps hp =>
    List.map_congr_left fun p hm => by
      obtain ⟨i, x⟩ := p
      simp only [hp x (Array.mem_map.2 ⟨(i, x), by simpa using hm, rfl⟩)]
  cases op <;> simp only [Op.operands] at h <;> simp only [opA]
  case build t ps => rw [pairs ps fun x hx => h x (by simpa using hx)]
  case buildSlice t n ps => rw [pairs ps fun x hx => h x (by simpa using hx)]
  case makeFunc fn first captured =>
    rw [List.map_congr_left (l := first.toList) fun x hx => h x (by have : x ∈ first := by simpa using hx
                                                                    simp [this]), List.map_congr_left (l := captured.toList) fun x hx => h x (by have : x ∈ captured := by simpa using hx
                                                                                                                                                 simp [this])]
  case call c => rw [callA_congr c h]
  case slice t x lo hi mx => cases lo <;> cases hi <;> cases mx <;> simp_all
  all_goals (first | rfl | (simp_all; done))

/-- Two rows of values that are one where an operation looks. -/
def Agree (ops : Array Oper) (o : Oper) (T T' : List AV) : Prop := ∀ t ∈ o.looksAt ops, T[t]? = T'[t]?

theorem Agree.eval {ops : Array Oper} {o : Oper} {T T' : List AV} (h : Agree ops o T T') : ∀ x ∈ o.op.operands, aEval T x = aEval T' x := by
  intro x hx
  cases x with
  | tmp t =>
    have := h t (List.mem_append_left _ (List.mem_filterMap.2 ⟨.tmp t, by simpa using hx, rfl⟩))
    simp only [aEval, List.getD_eq_getElem?_getD, this]
  | _ => rfl

theorem Agree.wanted {ops : Array Oper} {o : Oper} {T T' : List AV} (h : Agree ops o T T') : wantedA ops T o = wantedA ops T' o := by
  unfold wantedA
  cases hg : o.guard with
  | none => rfl
  | some gw =>
    obtain ⟨g, want⟩ := gw
    simp only
    cases ht : (ops[g]?).bind (·.dst) with
    | none => rfl
    | some t =>
      have := h t (by simp [Oper.looksAt, hg, ht])
      simp only [this]

variable {call : CallF}

theorem stepA_congr {ops : Array Oper} {o : Oper} {T T' : List AV} {H : AHeap} (h : Agree ops o T T') : stepA P E call ops T H o = stepA P E call ops T' H o := by
  unfold stepA
  rw [h.wanted, opA_congr o h.eval]

/-- Nothing lies where new objects are to come. -/
def Free (H : AHeap) (a b : Nat) : Prop := ∀ k, a ≤ k → k < b → H.get k = none

/-- A call over a heap with more in it. -/
def CallTrs (call : CallF) : Prop := ∀ f args M v M', Wf M → call f args M = some (v, M') →
  ∃ ts, M' = aps ts M ∧ Tame M ts ∧ Wf M' ∧ ∀ H, Sub M H → Free H M.next M'.next → call f args H = some (v, aps ts H)

theorem get_tr (t : Tr) (H : AHeap) (k : Nat) : (t.ap H).get k = match t with
    | .put j o _ => if j = k then o else H.get k
    | .next _ => H.get k := by
  cases t with
  | put j o lg => simp only [Tr.ap, AHeap.get, Trie.get_set]
  | next n => rfl

theorem aps_untouched : ∀ (ts : List Tr) (H : AHeap) (k : Nat), (∀ o lg, Tr.put k o lg ∉ ts) → (aps ts H).get k = H.get k
  | [], H, k, _ => rfl
  | t :: ts, H, k, h => by
    rw [aps, aps_untouched ts _ k fun o lg hm => h o lg (List.mem_cons_of_mem _ hm), get_tr]
    cases t with
    | put j o lg =>
      simp only
      split
      · rename_i e; subst e; exact (h o lg List.mem_cons_self).elim
      · rfl
    | next n => rfl

/-- What a turn has touched is the same on any heap. -/
theorem aps_touched : ∀ (ts : List Tr) (A B : AHeap) (k : Nat), (A.get k = B.get k ∨ ∃ o lg, Tr.put k o lg ∈ ts) → (aps ts A).get k = (aps ts B).get k
  | [], A, B, k, h => h.elim id fun ⟨_, _, hm⟩ => by cases hm
  | t :: ts, A, B, k, h => by
    simp only [aps]
    refine aps_touched ts _ _ k ?_
    rcases h with h | ⟨o, lg, hm⟩
    · left
      rw [get_tr, get_tr]
      cases t <;> simp only [h]
    · rcases List.mem_cons.1 hm with rfl | hm
      · left; rw [get_tr, get_tr]; simp
      · exact .inr ⟨o, lg, hm⟩

theorem next_aps_eq : ∀ (ts : List Tr) {A B : AHeap}, A.next = B.next → (aps ts A).next = (aps ts B).next
  | [], _, _, h => h
  | t :: ts, A, B, h => next_aps_eq ts (by cases t <;> first | exact h | rfl)
theorem log_aps : ∀ (ts : List Tr) (A : AHeap) (k : Nat), k ∈ (aps ts A).log ↔ k ∈ A.log ∨ ∃ o, Tr.put k o true ∈ ts
  | [], A, k => by simp [aps]
  | t :: ts, A, k => by
    rw [aps, log_aps ts]
    cases t with
    | put j o lg =>
      cases lg with
      | true =>
        simp only [Tr.ap, if_true, List.mem_cons]
        constructor
        · rintro ((rfl | h) | ⟨x, h⟩)
          · exact .inr ⟨o, .inl rfl⟩
          · exact .inl h
          · exact .inr ⟨x, .inr h⟩
        · rintro (h | ⟨x, h | h⟩)
          · exact .inl (.inr h)
          · cases h; exact .inl (.inl rfl)
          · exact .inr ⟨x, h⟩
      | false => simp [Tr.ap]
    | next n => simp [Tr.ap]

theorem Free.sub {M H : AHeap} (_ : Wf M) {a b c d : Nat} (h : Free H a b) (h1 : a ≤ c) (h2 : d ≤ b) : Free H c d := fun k x y => h k (by omega) (by omega)

theorem Tame.free {M H : AHeap} {ts : List Tr} (ht : Tame M ts) {a b : Nat} (h1 : (aps ts M).next ≤ a) (h : Free H a b) : Free (aps ts H) a b := by
  intro k hk1 hk2
  rw [aps_untouched ts H k fun o lg hm => ?_, h k hk1 hk2]
  have := (ht.2 k o lg hm).2
  omega

theorem stepA_trs (hc : CallTrs call) {ops : Array Oper} {T : List AV} {o : Oper} {M M' : AHeap} {v : AV} (hw : Wf M) (h : stepA P E call ops T M o = some (v, M')) :
    ∃ ts, M' = aps ts M ∧ Tame M ts ∧ Wf M' ∧ ∀ H, Sub M H → Free H M.next M'.next → stepA P E call ops T H o = some (v, aps ts H) := by
  unfold stepA at h
  split at h
  · rename_i hwt
    split at h
    · rename_i v1 H1 h1
      cases h
      obtain ⟨ts, g1, g2, g3, g4⟩ := opA_trs hw h1
      exact ⟨ts, g1, g2, g3, fun H hs _ => by unfold stepA; simp only [hwt, g4 H hs]⟩
    · rename_i f args H1 h1
      obtain ⟨rfl, g4⟩ := opA_trs hw h1
      obtain ⟨ts, k1, k2, k3, k4⟩ := hc _ _ _ _ _ hw h
      exact ⟨ts, k1, k2, k3, fun H hs hf => by unfold stepA; simp only [hwt, g4 H hs]; exact k4 H hs hf⟩
    · cases h
  · rename_i hwt
    cases h
    exact ⟨[], rfl, Tame.nil _, hw, fun H hs _ => by unfold stepA; simp only [hwt]; rfl⟩
  · cases h

theorem opsA_trs (hc : CallTrs call) {ops : Array Oper} : ∀ (l : List Oper) (T : List AV) (M : AHeap) (T' : List AV) (M' : AHeap), Wf M → opsA P E call ops l T M = some (T', M') →
    ∃ ts, M' = aps ts M ∧ Tame M ts ∧ Wf M' ∧ ∀ H, Sub M H → Free H M.next M'.next → opsA P E call ops l T H = some (T', aps ts H)
  | [], T, M, T', M', hw, h => by
    simp only [opsA] at h; cases h
    exact ⟨[], rfl, Tame.nil _, hw, fun H _ _ => rfl⟩
  | o :: l, T, M, T', M', hw, h => by
    simp only [opsA] at h
    split at h
    · rename_i v M1 h1
      obtain ⟨ts, g1, g2, g3, g4⟩ := stepA_trs hc hw h1
      obtain ⟨us, k1, k2, k3, k4⟩ := opsA_trs hc l _ _ _ _ g3 h
      subst g1
      have hn1 : M.next ≤ (aps ts M).next := g2.1
      have hn2 : (aps ts M).next ≤ (aps us (aps ts M)).next := k2.1
      subst k1
      refine ⟨ts ++ us, (aps_append ..).symm, g2.append k2, k3, fun H hs hf => ?_⟩
      have e1 := g4 H hs (hf.sub hw (Nat.le_refl _) hn2)
      have e2 := k4 (aps ts H) (hs.aps ts) (g2.free (Nat.le_refl _) (hf.sub hw hn1 (Nat.le_refl _)))
      simp only [opsA, e1, e2, aps_append]
    · cases h
end
end Go.Am
