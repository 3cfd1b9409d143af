/-
  Steps, and rows of steps, of the abstract machine and of the model.
-/
import Derived.Test.YtcboaonbfgjmgaaAm25
namespace Go.Am
section
variable {E : Env} {w0 : World} {P : Program}

theorem relL_getD {ρ : LMap} {T : List AV} {vs : Array Value} (h : relL ρ T vs.toList) (t : Nat) : rel ρ (T.getD t undefA) (vs.getD t undef) := by
  have hl := relL_length h
  simp only [Array.length_toList] at hl
  by_cases ht : t < T.length
  · obtain ⟨v, h1, h2⟩ := relL_get h t (List.getElem?_eq_getElem ht)
    have h1' : vs[t]? = some v := by simpa using h1
    rw [List.getD_eq_getElem?_getD, List.getElem?_eq_getElem ht]
    rw [Array.getD_eq_getD_getElem?, h1']
    exact h2
  · rw [List.getD_eq_getElem?_getD, List.getElem?_eq_none (by omega), Array.getD_eq_getD_getElem?, Array.getElem?_eq_none (by omega)]
    exact rel_undef

theorem eval_rel {ρ : LMap} {T : List AV} {a : Act} (h : relL ρ T a.tmps.toList) : ∀ x, rel ρ (aEval T x) (a.eval x)
  | .tmp t => relL_getD h t
  | .const v => rel_ofVal v
  | .global g => by simp only [aEval, Act.eval, rel, baseOf]; exact ⟨g, 0, rfl, rfl⟩
  | .func f => by
    simp only [aEval, Act.eval, rel]
    exact ⟨#[], #[], rfl, relL_nil.2 rfl, relL_nil.2 rfl⟩

theorem put_rel {ρ : LMap} {T : List AV} {a : Act} {dst : Option Tmp} {v : AV} {vv : Value} (h : relL ρ T a.tmps.toList) (hv : rel ρ v vv) : relL ρ (putA T dst v) (a.put dst vv).tmps.toList := by
  cases dst with
  | none => exact h
  | some d =>
    simp only [putA, Act.put, Array.toList_setIfInBounds]
    exact relL_set h d hv

theorem wanted_rel {ρ : LMap} {ops : Array Oper} {T : List AV} {tmps : Array Value} {o : Oper} {b : Bool} (h : wantedA ops T o = some b) (hr : relL ρ T tmps.toList) :
    Region.wanted o (yielded ops tmps) = b := by
  have hl := relL_length hr
  simp only [Array.length_toList] at hl
  unfold wantedA at h
  unfold Region.wanted
  split at h
  · rename_i hg; rw [hg]; cases h; rfl
  · rename_i j want hg
    rw [hg]
    simp only
    split at h
    · rename_i hd
      cases h
      simp [yielded, hd]
    · rename_i d hd
      have hy : yielded ops tmps j = (match tmps[d]? with | some (.bool b) => some b | _ => none) := by
        unfold yielded
        rw [hd]
        rfl
      rw [hy]
      split at h
      · rename_i b' hb
        cases h
        obtain ⟨v, h1, h2⟩ := relL_get hr d hb
        simp only [rel] at h2; subst h2
        rw [show tmps[d]? = some (.bool b') by simpa using h1]
        simp only
        cases b' <;> cases want <;> rfl
      · cases h
      · rename_i h1 h2
        cases h
        cases hT : T[d]? with
        | none =>
          have : tmps[d]? = none := by
            rw [Array.getElem?_eq_none_iff]
            have := List.getElem?_eq_none_iff.1 hT
            omega
          rw [this]; cases want <;> rfl
        | some x =>
          obtain ⟨v, g1, g2⟩ := relL_get hr d hT
          rw [show tmps[d]? = some v by simpa using g1]
          cases v with
          | bool bb =>
            cases x <;> simp [rel] at g2
            · subst g2; exact (h1 _ hT).elim
            · subst g2; exact (h2 _ hT).elim
          | _ => cases want <;> rfl

/-- A heap that is looked at through a part of it that has its new numbers in order. -/
structure Und (M H : AHeap) (n : Nat) : Prop where
  wf : Wf M
  sub : Sub M H
  free : Free H M.next n

theorem Und.head {M H : AHeap} {m n : Nat} (h : Und M H n) (hm : m ≤ n) : Und M H m := ⟨h.wf, h.sub, h.free.sub h.wf (Nat.le_refl _) hm⟩
theorem Und.step {M H : AHeap} {n : Nat} {ts : List Tr} (h : Und M H n) (ht : Tame M ts) (hw : Wf (aps ts M)) : Und (aps ts M) (aps ts H) n :=
  ⟨hw, h.sub.aps ts, ht.free (Nat.le_refl _) (h.free.sub h.wf ht.1 (Nat.le_refl _))⟩
theorem Und.le {M H : AHeap} {n : Nat} {ts : List Tr} (h : Und M H n) (ht : Tame M ts) : H.next ≤ (aps ts H).next := by
  rw [next_aps_eq ts h.sub.next, h.sub.next]; exact ht.1

/-- What a call of the abstract machine's says of the model's. -/
def CallOk (P : Program) (E : Env) (w0 : World) (call : CallF) : Prop := CallTrs call ∧ ∀ f args M H v M' H', call f args M = some (v, M') → Und M H M'.next → call f args H = some (v, H') →
  ∀ (w : World) (ρ : LMap) (vargs : Array Value), Rep E w0 H w ρ → relL ρ args vargs.toList → Fresh ρ H H' →
    Calls P f vargs w fun e w' => ∃ u ρ', e = .returned u ∧ Ext ρ ρ' ∧ (∀ k, ¬ (H.next ≤ k ∧ k < H'.next) → ρ' k = ρ k) ∧ rel ρ' v u ∧ Rep E w0 H' w' ρ'

variable {call : CallF}

theorem stepA_sound (hc : CallOk P E w0 call) {ops : Array Oper} {T : List AV} {M H : AHeap} {o : Oper} {v : AV} {M' H' : AHeap} {i : Nat} (hM : stepA P E call ops T M o = some (v, M')) (hu : Und M H M'.next)
    (h : stepA P E call ops T H o = some (v, H')) (ho : ops[i]? = some o)
    {w : World} {ρ : LMap} (R : Rep E w0 H w ρ) {a : Act} (hT : relL ρ T a.tmps.toList) (hf : Fresh ρ H H') {K : Act → World → Prop} {Q : Exit → Act → World → Prop}
    (hK : ∀ ρ' vv w', Ext ρ ρ' → (∀ k, ¬ (H.next ≤ k ∧ k < H'.next) → ρ' k = ρ k) → rel ρ' v vv → Rep E w0 H' w' ρ' → K (a.put o.dst vv) w') : wpOp P ops Q i K a w := by
  unfold wpOp
  rw [ho]
  simp only
  unfold stepA at h hM
  split at h
  · rename_i hw
    rw [wanted_rel hw hT, if_pos rfl]
    left
    unfold Oper.wp
    split at h
    · rename_i v1 H1 h1
      cases h
      obtain ⟨nx, vv, w', ρ', g1, g2, g3, g4, g5, g6, _⟩ := opA_sound R h1 (eval_rel hT) hf
      rw [g1]
      rcases g2 with rfl | ⟨rfl, rfl⟩
      · exact hK ρ' vv w' g3 g4 g5 g6
      · exact hK ρ' undef w' g3 g4 g5 g6
    · rename_i f args H1 h1
      obtain ⟨rfl, vargs, g1, g2⟩ := opA_sound R h1 (eval_rel hT)
      rw [g1]
      simp only [hw] at hM
      split at hM
      · rename_i v2 M2 m1
        obtain ⟨ts, _, _, _, k4⟩ := opA_trs hu.wf m1
        have := k4 _ hu.sub
        rw [h1] at this
        cases this
      · rename_i f2 args2 M2 m1
        obtain ⟨rfl, k4⟩ := opA_trs hu.wf m1
        have := k4 _ hu.sub
        rw [h1] at this
        cases this
        refine Calls.mono (hc.2 _ _ _ _ _ _ _ hM hu h w ρ vargs R g2 hf) ?_
        rintro e w' ⟨u, ρ', rfl, k1, k2, k3, k4⟩
        exact hK ρ' u w' k1 k2 k3 k4
      · cases hM
    · cases h
  · rename_i hw
    rw [wanted_rel hw hT, if_neg Bool.false_ne_true]
    cases h
    exact hK ρ undef w (Ext.refl _) (fun _ _ => rfl) rel_undef R
  · cases h

/-- A state of the model that is one of the abstract machine's. -/
def St (E : Env) (w0 : World) (H0 : AHeap) (ρ0 : LMap) (ds : List Deferred) (T : List AV) (H : AHeap) (a : Act) (w : World) : Prop :=
  ∃ ρ, Ext ρ0 ρ ∧ (∀ k, ¬ (H0.next ≤ k ∧ k < H.next) → ρ k = ρ0 k) ∧ relL ρ T a.tmps.toList ∧ Rep E w0 H w ρ ∧ H0.next ≤ H.next ∧ a.defers = ds

theorem St.trans {H0 H1 H2 : AHeap} {ρ0 ρ1 : LMap} {ds : List Deferred} {T : List AV} {a : Act} {w : World} (h1 : Ext ρ0 ρ1) (h2 : ∀ k, ¬ (H0.next ≤ k ∧ k < H1.next) → ρ1 k = ρ0 k) (h3 : H0.next ≤ H1.next)
    (h : St E w0 H1 ρ1 ds T H2 a w) : St E w0 H0 ρ0 ds T H2 a w := by
  obtain ⟨ρ, g1, g2, g3, g4, g5, g6⟩ := h
  refine ⟨ρ, h1.trans g1, fun k hk => ?_, g3, g4, by omega, g6⟩
  rw [g2 k (by omega), h2 k (by omega)]

theorem Fresh.tail {H0 H1 H2 : AHeap} {ρ0 ρ1 : LMap} (h : Fresh ρ0 H0 H2) (h2 : ∀ k, ¬ (H0.next ≤ k ∧ k < H1.next) → ρ1 k = ρ0 k) (h3 : H0.next ≤ H1.next) : Fresh ρ1 H1 H2 := by
  intro k hk1 hk2
  rw [h2 k (by omega)]
  exact h k (by omega) hk2
theorem Fresh.head {H0 H1 H2 : AHeap} {ρ0 : LMap} (h : Fresh ρ0 H0 H2) (h3 : H1.next ≤ H2.next) : Fresh ρ0 H0 H1 := fun k hk1 hk2 => h k hk1 (by omega)

theorem put_defers (a : Act) (dst : Option Tmp) (v : Value) : (a.put dst v).defers = a.defers := by cases dst <;> rfl

theorem opsA_sound (hc : CallOk P E w0 call) {ops : Array Oper} {Q : Exit → Act → World → Prop} : ∀ (l : List Oper) (i : Nat) (T : List AV) (M H : AHeap) (T' : List AV) (M' H' : AHeap), opsA P E call ops l T M = some (T', M') → Und M H M'.next →
    opsA P E call ops l T H = some (T', H') →
    ops.toList.drop i = l → ∀ (w : World) (ρ : LMap) (a : Act), Rep E w0 H w ρ → relL ρ T a.tmps.toList → Fresh ρ H H' → (∀ a' w', St E w0 H ρ a.defers T' H' a' w' → Q .normal a' w') →
      wpOps P ops Q (List.range' i l.length) a w
  | [], i, T, M, H, T', M', H', hM, hu, h, _, w, ρ, a, R, hT, hf, hQ => by
    simp only [opsA] at h; cases h
    simp only [List.length_nil, List.range'_zero, wpOps]
    exact hQ a w ⟨ρ, Ext.refl _, fun _ _ => rfl, hT, R, Nat.le_refl _, rfl⟩
  | o :: l, i, T, M, H, T', M', H', hM, hu, h, hl, w, ρ, a, R, hT, hf, hQ => by
    simp only [opsA] at hM
    split at hM
    · rename_i v M1 m1
      obtain ⟨ts, t1, t2, t3, t4⟩ := stepA_trs hc.1 hu.wf m1
      obtain ⟨us, u1, u2, u3, u4⟩ := opsA_trs hc.1 l _ _ _ _ t3 hM
      have hm2 : M1.next ≤ M'.next := by rw [u1]; exact u2.1
      have h1 := t4 H hu.sub (hu.head hm2).free
      simp only [opsA, h1] at h
      have hn1 : H.next ≤ (aps ts H).next := hu.le t2
      subst t1
      have hu2 : Und (aps ts M) (aps ts H) M'.next := hu.step t2 t3
      have hn2 : (aps ts H).next ≤ H'.next := by
        have := u4 _ hu2.sub hu2.free
        rw [h] at this
        cases this
        exact hu2.le u2
      have hdr : ops.toList.drop (i + 1) = l := by
        have := congrArg List.tail hl
        rw [List.tail_drop] at this
        exact this
      have ho : ops[i]? = some o := by
        have : (ops.toList.drop i)[0]? = some o := by rw [hl]; rfl
        rw [List.getElem?_drop] at this
        simpa using this
      have hlen : (List.range' i (o :: l).length) = i :: List.range' (i + 1) l.length := by
        simp [List.range'_succ]
      rw [hlen, wpOps_cons]
      refine stepA_sound hc m1 (hu.head hm2) h1 ho R hT (hf.head hn2) ?_
      intro ρ' vv w' g1 g2 g3 g4
      refine opsA_sound hc l (i + 1) _ _ _ _ _ _ hM hu2 h hdr w' ρ' _ g4 (put_rel (relL_ext g1 _ _ hT) g3) (hf.tail g2 hn1) ?_
      intro a' w'' hst
      rw [put_defers] at hst
      exact hQ a' w'' (St.trans g1 g2 hn1 hst)
    · cases hM
end
end Go.Am
