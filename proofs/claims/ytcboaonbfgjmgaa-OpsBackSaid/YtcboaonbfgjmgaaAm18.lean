/-
  Code and calls of the abstract machine and of the model, over what is said of regions that draw.
-/
import Derived.Test.YtcboaonbfgjmgaaAm17
namespace Go.Am
section
variable {E : Env} {w0 : World} {P : Program}

def exOf : AExit → Exit
  | .normal => .normal
  | .exit id => .exit id
  | .ret => .ret

/-- What is asked of regions that draw their order. -/
def DrawOk (P : Program) (E : Env) (w0 : World) (call : CallF) : Prop := ∀ (ops : Array Oper) (T : List AV) (M H : AHeap) (T' : List AV) (M' H' : AHeap),
  drawA P E call ops ops.toList [] T M M.next = some (T', M') → Und M H M'.next → drawA P E call ops ops.toList [] T H H.next = some (T', H') →
    ∀ (id : Nat) (w : World) (ρ : LMap) (a : Act) (Q : Exit → Act → World → Prop), Rep E w0 H w ρ → relL ρ T a.tmps.toList → Fresh ρ H H' → (∀ a' w', St E w0 H ρ a.defers T' H' a' w' → Q .normal a' w') →
      (Code.region id ops true).wp P Q a w

variable {call : CallF}

theorem St.log {H0 H H' : AHeap} {ρ : LMap} {ds : List Deferred} {T : List AV} {a : Act} {w : World} (h : St E w0 H0 ρ ds T H a w) (ho : H'.objs = H.objs) (hn : H'.next = H.next) : St E w0 H0 ρ ds T H' a w := by
  obtain ⟨ρ', g1, g2, g3, g4, g5, g6⟩ := h
  exact ⟨ρ', g1, by rw [hn]; exact g2, g3, g4.log_eq ho, by omega, g6⟩

theorem codeA_sound (hc : CallOk P E w0 call) (hd : DrawOk P E w0 call) : ∀ (n : Nat) (c : Code) (T : List AV) (M H : AHeap) (ex : AExit) (T' : List AV) (M' H' : AHeap), codeA P E call n c T M = some (ex, T', M') → Und M H M'.next →
    codeA P E call n c T H = some (ex, T', H') → ∀ (w : World) (ρ : LMap) (a : Act) (Q : Exit → Act → World → Prop), Rep E w0 H w ρ → relL ρ T a.tmps.toList → Fresh ρ H H' → (∀ a' w', St E w0 H ρ a.defers T' H' a' w' → Q (exOf ex) a' w') →
      c.wp P Q a w ∧ ∀ c0, c = .loop c0 → Code.rounds P c0 Q n a w
  | 0, c, T, M, H, ex, T', M', H', hM, hu, h => by simp [codeA] at h
  | n + 1, c, T, M, H, ex, T', M', H', hM, hu, h => by
    intro w ρ a Q R hT hf hQ
    have same : St E w0 H ρ a.defers T H a w := ⟨_, Ext.refl _, fun _ _ => rfl, hT, R, Nat.le_refl _, rfl⟩
    unfold codeA at hM
    split at hM
    case h_1 => simp only [codeA] at h; cases h; exact ⟨wp_skip (hQ a w same), fun c0 e => by cases e⟩
    case h_2 => simp only [codeA] at h; cases h; exact ⟨wp_label (hQ a w same), fun c0 e => by cases e⟩
    case h_3 => simp only [codeA] at h; cases h; exact ⟨wp_ret (hQ a w same), fun c0 e => by cases e⟩
    case h_4 id => simp only [codeA] at h; cases h; exact ⟨wp_exit (hQ a w same), fun c0 e => by cases e⟩
    case h_5 id ops =>
      simp only [codeA, Option.map_eq_some_iff] at h hM
      obtain ⟨⟨T1, M1⟩, m1, hM⟩ := hM
      cases hM
      obtain ⟨⟨T1', H1⟩, h1, h⟩ := h
      cases h
      refine ⟨wp_region ?_, fun c0 e => by cases e⟩
      have := opsA_sound hc (Q := Q) ops.toList 0 _ _ _ _ _ _ m1 hu h1 rfl w ρ a R hT hf hQ
      rwa [List.range_eq_range', ← Array.length_toList]
    case h_6 id ops =>
      simp only [codeA, Option.map_eq_some_iff] at h hM
      obtain ⟨⟨T1, M1⟩, m1, hM⟩ := hM
      cases hM
      obtain ⟨⟨T1', H1⟩, h1, h⟩ := h
      cases h
      exact ⟨hd _ _ _ _ _ _ _ m1 hu h1 id w ρ a Q R hT hf hQ, fun c0 e => by cases e⟩
    case h_7 x y =>
      split at hM
      · rename_i T1 M1 m1
        obtain ⟨ts, t1, t2, t3, t4⟩ := codeA_trs hc.1 n _ _ _ _ _ _ hu.wf m1
        obtain ⟨us, u1, u2, u3, u4⟩ := codeA_trs hc.1 n _ _ _ _ _ _ t3 hM
        have hm2 : M1.next ≤ M'.next := by rw [u1]; exact u2.1
        have h1 := t4 H hu.sub (hu.head hm2).free
        simp only [codeA, h1] at h
        have hn1 : H.next ≤ (aps ts H).next := hu.le t2
        subst t1
        have hu2 : Und (aps ts M) (aps ts H) M'.next := hu.step t2 t3
        have hn2 : (aps ts H).next ≤ H'.next := by
          have := u4 _ hu2.sub hu2.free
          rw [h] at this
          cases this
          exact hu2.le u2
        refine ⟨wp_seq ?_, fun c0 e => by cases e⟩
        refine (codeA_sound hc hd n _ _ _ _ _ _ _ _ m1 (hu.head hm2) h1 w ρ a _ R hT (hf.head hn2) ?_).1
        rintro a1 w1 ⟨ρ1, g1, g2, g3, g4, g5, g6⟩
        refine (codeA_sound hc hd n _ _ _ _ _ _ _ _ hM hu2 h w1 ρ1 a1 Q g4 g3 (hf.tail g2 hn1) ?_).1
        intro a2 w2 hst
        exact hQ a2 w2 (St.trans g1 g2 hn1 (by rw [← g6]; exact hst))
      · rename_i hne
        obtain ⟨ts, t1, t2, t3, t4⟩ := codeA_trs hc.1 n _ _ _ _ _ _ hu.wf hM
        have h1 := t4 H hu.sub hu.free
        have hH : H' = aps ts H := by
          simp only [codeA, h1] at h
          cases ex with
          | normal => exact absurd hM (hne _ _)
          | _ => cases h; rfl
        subst hH
        refine ⟨wp_seq ?_, fun c0 e => by cases e⟩
        refine (codeA_sound hc hd n _ _ _ _ _ _ _ _ hM hu h1 w ρ a _ R hT hf ?_).1
        intro a1 w1 hst
        have := hQ a1 w1 hst
        cases ex with
        | normal => exact absurd hM (hne _ _)
        | exit id => exact this
        | ret => exact this
    case h_8 c1 x y =>
      split at hM
      · rename_i t ht
        simp only [codeA, ht] at h
        refine ⟨?_, fun c0 e => by cases e⟩
        have hr := eval_rel hT c1
        rw [ht] at hr
        simp only [rel] at hr
        exact wp_cond hr (codeA_sound hc hd n _ _ _ _ _ _ _ _ hM hu h w ρ a Q R hT hf hQ).1
      · cases hM
    case h_9 id x =>
      split at hM
      · rename_i id' T1 M1 m1
        obtain ⟨ts, t1, t2, t3, t4⟩ := codeA_trs hc.1 n _ _ _ _ _ _ hu.wf m1
        have hM1 : M1.next = M'.next := by split at hM <;> cases hM <;> rfl
        have h1 := t4 H hu.sub (by rw [hM1]; exact hu.free)
        simp only [codeA, h1] at h
        split at hM
        · rename_i hid
          cases hM
          rw [if_pos hid] at h
          cases h
          refine ⟨wp_block ?_, fun c0 e => by cases e⟩
          refine (codeA_sound hc hd n _ _ _ _ _ _ _ _ m1 hu h1 w ρ a _ R hT hf ?_).1
          intro a1 w1 hst
          simp only [exOf, Exit.inBlock, hid, if_true]
          exact hQ a1 w1 hst
        · rename_i hid
          cases hM
          rw [if_neg hid] at h
          cases h
          refine ⟨wp_block ?_, fun c0 e => by cases e⟩
          refine (codeA_sound hc hd n _ _ _ _ _ _ _ _ m1 hu h1 w ρ a _ R hT hf ?_).1
          intro a1 w1 hst
          simp only [exOf, Exit.inBlock, hid, if_false]
          exact hQ a1 w1 hst
      · rename_i hne
        obtain ⟨ts, t1, t2, t3, t4⟩ := codeA_trs hc.1 n _ _ _ _ _ _ hu.wf hM
        have h1 := t4 H hu.sub hu.free
        have hH : H' = aps ts H := by
          simp only [codeA, h1] at h
          cases ex with
          | exit id' => exact absurd hM (hne _ _ _)
          | _ => cases h; rfl
        subst hH
        refine ⟨wp_block ?_, fun c0 e => by cases e⟩
        refine (codeA_sound hc hd n _ _ _ _ _ _ _ _ hM hu h1 w ρ a _ R hT hf ?_).1
        intro a1 w1 hst
        have := hQ a1 w1 hst
        cases ex with
        | normal => exact this
        | exit id' => exact absurd hM (hne _ _ _)
        | ret => exact this
    case h_10 x =>
      have main : Code.rounds P x Q (n + 1) a w := by
        split at hM
        · rename_i T1 M1 m1
          obtain ⟨ts, t1, t2, t3, t4⟩ := codeA_trs hc.1 n _ _ _ _ _ _ hu.wf m1
          obtain ⟨us, u1, u2, u3, u4⟩ := codeA_trs hc.1 n _ _ _ _ _ _ t3 hM
          have hm2 : M1.next ≤ M'.next := by rw [u1]; exact u2.1
          have h1 := t4 H hu.sub (hu.head hm2).free
          rw [codeA] at h
          simp only [h1] at h
          have hn1 : H.next ≤ (aps ts H).next := hu.le t2
          subst t1
          have hu2 : Und (aps ts M) (aps ts H) M'.next := hu.step t2 t3
          have hn2 : (aps ts H).next ≤ H'.next := by
            have := u4 _ hu2.sub hu2.free
            rw [h] at this
            cases this
            exact hu2.le u2
          rw [rounds_succ]
          refine (codeA_sound hc hd n _ _ _ _ _ _ _ _ m1 (hu.head hm2) h1 w ρ a _ R hT (hf.head hn2) ?_).1
          rintro a1 w1 ⟨ρ1, g1, g2, g3, g4, g5, g6⟩
          refine (codeA_sound hc hd n _ _ _ _ _ _ _ _ hM hu2 h w1 ρ1 a1 Q g4 g3 (hf.tail g2 hn1) ?_).2 x rfl
          intro a2 w2 hst
          exact hQ a2 w2 (St.trans g1 g2 hn1 (by rw [← g6]; exact hst))
        · rename_i hne
          obtain ⟨ts, t1, t2, t3, t4⟩ := codeA_trs hc.1 n _ _ _ _ _ _ hu.wf hM
          have h1 := t4 H hu.sub hu.free
          have hH : H' = aps ts H := by
            rw [codeA] at h
            simp only [h1] at h
            cases ex with
            | normal => exact absurd hM (hne _ _)
            | _ => cases h; rfl
          subst hH
          rw [rounds_succ]
          refine (codeA_sound hc hd n _ _ _ _ _ _ _ _ hM hu h1 w ρ a _ R hT hf ?_).1
          intro a1 w1 hst
          have := hQ a1 w1 hst
          cases ex with
          | normal => exact absurd hM (hne _ _)
          | exit id => exact this
          | ret => exact this
      refine ⟨wp_loop_rounds (n + 1) main, fun c0 e => ?_⟩
      cases e
      exact main
    case h_11 => cases hM

theorem relL_mapM {α : Type} {f : α → Option AV} {g : α → Sem Value} {w : World} {ρ : LMap} (hfg : ∀ x a, f x = some a → ∃ v, (g x).run P w = .ok v w ∧ rel ρ a v) : ∀ {l : List α} {r : List AV}, l.mapM f = some r →
    ∃ vs, (l.mapM g).run P w = .ok vs w ∧ relL ρ r vs
  | [], r, h => by simp at h; subst h; exact ⟨[], rfl, relL_nil.2 rfl⟩
  | x :: l, r, h => by
    simp only [List.mapM_cons, Option.bind_eq_bind, Option.bind_eq_some_iff] at h
    obtain ⟨a, ha, as, has, h⟩ := h
    cases h
    obtain ⟨v, h1, h2⟩ := hfg x a ha
    obtain ⟨vs, g1, g2⟩ := relL_mapM hfg has
    exact ⟨v :: vs, by simp [List.mapM_cons, h1, g1], relL_cons.2 ⟨h2, g2⟩⟩

theorem resultsA_sound {H : AHeap} {w : World} {ρ : LMap} (R : Rep E w0 H w ρ) {fn : Func} {T : List AV} {v : AV} {tmps : Array Value} (h : resultsA P E H fn T = some v) (hT : relL ρ T tmps.toList) :
    ∃ u, (results fn tmps).run P w = .ok u w ∧ rel ρ v u := by
  unfold resultsA at h
  simp only [Option.bind_eq_bind, Option.bind_eq_some_iff] at h
  obtain ⟨r, hr, h⟩ := h
  obtain ⟨vs, g1, g2⟩ := relL_mapM (P := P) (w := w) (ρ := ρ) (g := fun
    | .tmp t => pure (tmps.getD t undef)
    | .cell a t => do loadVar t (← asAddr (tmps.getD a undef))) (by
      intro x a hx
      cases x with
      | tmp t => simp only at hx; cases hx; exact ⟨_, rfl, relL_getD hT t⟩
      | cell a t =>
        simp only at hx
        split at hx
        · rename_i o i ha
          have hr := relL_getD hT a
          rw [ha] at hr
          simp only [rel] at hr
          obtain ⟨b, d, hb, hv⟩ := hr
          obtain ⟨b', d', u, k1, k2, k3⟩ := loadVarA_sound (P := P) R hx
          rw [hb] at k1; cases k1
          refine ⟨u, ?_, k3⟩
          simp only [hv, asAddr, Sem.run_bind, Sem.run_pure, Result.andThen_ok, k2]
        · cases hx) hr
  have hm : (fn.results.mapM (fun
    | .tmp t => pure (tmps.getD t undef)
    | .cell a t => do loadVar t (← asAddr (tmps.getD a undef)) : ResultVar → Sem Value)).run P w = .ok ⟨vs⟩ w := by
    rw [Array.mapM_eq_mapM_toList]
    simp only [Sem.run_map, g1, Result.andThen_ok]
  have hl := relL_length g2
  have hrun : (results fn tmps).run P w = .ok (if h : (⟨vs⟩ : Array Value).size = 1 then (⟨vs⟩ : Array Value)[0] else .tuple ⟨vs⟩) w := by
    unfold results
    rw [Sem.run_bind]
    erw [hm]
    rfl
  refine ⟨_, hrun, ?_⟩
  split at h
  · rename_i v' 
    cases h
    obtain ⟨x, rfl, hx⟩ := rel_one g2
    simpa using hx
  · rename_i hne
    cases h
    have : vs.length ≠ 1 := by
      intro e
      rw [e] at hl
      obtain ⟨x, rfl⟩ := List.length_eq_one_iff.1 hl
      exact hne x rfl
    rw [dif_neg (by simpa using this)]
    simp only [rel]
    exact ⟨_, rfl, g2⟩

/-- CALLS: what the abstract machine tells of a call, the model does. -/
theorem callFA_sound (hd : ∀ call, CallOk P E w0 call → DrawOk P E w0 call) {ov : OvF} (hov : CallOk P E w0 (ovCall ov)) : ∀ n, CallOk P E w0 (callFA P E ov n)
  | 0 => ⟨callFA_trs P E hov.1 0, fun f args M H v M' H' hM hu h => by simp [callFA] at h⟩
  | n + 1 => ⟨callFA_trs P E hov.1 (n + 1), fun f args M H v M' H' hM hu h => by
    have ih := callFA_sound hd hov n
    intro w ρ vargs R hr hf
    unfold callFA at hM
    split at hM
    · rename_i g hg
      refine hov.2 f args M H v M' H' (by unfold ovCall; rw [hg]; exact hM) hu ?_ w ρ vargs R hr hf
      unfold ovCall
      rw [hg]
      simp only [callFA, hg] at h
      exact h
    rename_i hg
    split at hM
    · rename_i fn hfn
      split at hM
      · rename_i c hb
        have main : ∀ {ex T M1}, codeA P E (callFA P E ov n) n c (args ++ List.replicate (fn.ntmps - args.length) undefA) M = some (ex, T, M1) → (ex = .normal ∨ ex = .ret) → (resultsA P E M1 fn T).map (fun v => (v, M1)) = some (v, M') →
              Calls P f vargs w fun e w' => ∃ u ρ', e = .returned u ∧ Ext ρ ρ' ∧ (∀ k, ¬ (H.next ≤ k ∧ k < H'.next) → ρ' k = ρ k) ∧ rel ρ' v u ∧ Rep E w0 H' w' ρ' := by
          intro ex T M1 m1 hex hres
          simp only [Option.map_eq_some_iff, Prod.mk.injEq] at hres
          obtain ⟨v', hv, rfl, rfl⟩ := hres
          obtain ⟨ts, t1, t2, t3, t4⟩ := codeA_trs ih.1 n _ _ _ _ _ _ hu.wf m1
          have h1 := t4 H hu.sub hu.free
          have hres := resultsA_sub (H := aps ts H) (by rw [t1]; exact hu.sub.aps ts) hv
          have hH : H' = aps ts H := by
            rcases hex with rfl | rfl <;> (simp only [callFA, hg, hfn, hb, h1, hres, Option.map_some] at h; cases h; rfl)
          subst hH
          refine calls_of_wp hfn hb ?_
          refine (codeA_sound ih (hd _ ih) n _ _ _ _ _ _ _ _ m1 hu h1 w ρ { tmps := vargs ++ Array.replicate (fn.ntmps - vargs.size) undef, defers := [] } _ R ?_ hf ?_).1
          · have hl := relL_length hr
            simp only [Array.length_toList] at hl
            rw [Array.toList_append, Array.toList_replicate, ← hl]
            refine relL_append hr ?_
            generalize fn.ntmps - args.length = m
            induction m with
            | zero => exact relL_nil.2 rfl
            | succ m ihm => exact relL_cons.2 ⟨rel_undef, ihm⟩
          · rintro a' w' ⟨ρ', g1, g2, g3, g4, g5, g6⟩
            obtain ⟨u, k1, k2⟩ := resultsA_sound (P := P) g4 hres g3
            have : bodyPost P fn (fun e w' => ∃ u ρ', e = .returned u ∧ Ext ρ ρ' ∧ (∀ k, ¬ (H.next ≤ k ∧ k < (aps ts H).next) → ρ' k = ρ k) ∧ rel ρ' v' u ∧ Rep E w0 (aps ts H) w' ρ') .normal a' w' :=
              ⟨g6, u, k1, u, ρ', rfl, g1, g2, k2, g4⟩
            rcases hex with rfl | rfl
            · exact this
            · exact this
        split at hM
        · rename_i T M1 m1
          exact main m1 (.inl rfl) hM
        · rename_i T M1 m1
          exact main m1 (.inr rfl) hM
        · cases hM
      · cases hM
    · cases hM⟩
end
end Go.Am
