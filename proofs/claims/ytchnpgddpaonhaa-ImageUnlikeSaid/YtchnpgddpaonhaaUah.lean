/-
  Texts Am18 Am26 Am27 Am28, as far as they are used.
-/
import Derived.Test.YtchnpgddpaonhaaUag
import Derived.WalkKit
import Derived.ProofKit
import Derived.OpenShut
section
namespace Go.Am
section
variable {E : Env} {w0 : World} {P : Program}
def exOf : AExit → Exit
  | .normal => .normal
  | .exit id => .exit id
  | .ret => .ret
/-- What is asked of regions that draw their order. -/
def DrawOk (P : Program) (E : Env) (w0 : World) (call : CallF) : Prop := ∀ (ops : Array Oper) (T : List AV) (M H : AHeap) (T' : List AV) (M' H' : AHeap),
  drawA P E call ops ops.toList [] T M M.next = some (T', M') → Und M H M'.next → drawA P E call ops ops.toList [] T H H.next = some (T', H') →
    ∀ (id : Nat) (w : World) (ρ : LMap) (a : Act) (Q : Exit → Act → World → Prop), Rep E w0 H w ρ → relL ρ T a.tmps.toList → Fresh ρ H H' → (∀ a' w', St E w0 H ρ a.defers T' H' a' w' → Q .normal a' w') →
      (Code.region id ops true).wp P Q a w
variable {call : CallF}
theorem St.log {H0 H H' : AHeap} {ρ : LMap} {ds : List Deferred} {T : List AV} {a : Act} {w : World} (h : St E w0 H0 ρ ds T H a w) (ho : H'.objs = H.objs) (hn : H'.next = H.next) : St E w0 H0 ρ ds T H' a w := by
  obtain ⟨ρ', g1, g2, g3, g4, g5, g6⟩ := h
  exact ⟨ρ', g1, by rw [hn]; exact g2, g3, g4.log_eq ho, by omega, g6⟩
theorem codeA_sound (hc : CallOk P E w0 call) (hd : DrawOk P E w0 call) : ∀ (n : Nat) (c : Code) (T : List AV) (M H : AHeap) (ex : AExit) (T' : List AV) (M' H' : AHeap), codeA P E call n c T M = some (ex, T', M') → Und M H M'.next →
    codeA P E call n c T H = some (ex, T', H') → ∀ (w : World) (ρ : LMap) (a : Act) (Q : Exit → Act → World → Prop), Rep E w0 H w ρ → relL ρ T a.tmps.toList → Fresh ρ H H' → (∀ a' w', St E w0 H ρ a.defers T' H' a' w' → Q (exOf ex) a' w') →
      c.wp P Q a w ∧ ∀ c0, c = .loop c0 → Code.rounds P c0 Q n a w
  | 0, c, T, M, H, ex, T', M', H', hM, hu, h => by simp [codeA] at h
  | n + 1, c, T, M, H, ex, T', M', H', hM, hu, h => by
    intro w ρ a Q R hT hf hQ
    have same : St E w0 H ρ a.defers T H a w := ⟨_, Ext.refl _, fun _ _ => rfl, hT, R, Nat.le_refl _, rfl⟩
    unfold codeA at hM
    split at hM
    case h_1 => simp only [codeA] at h; cases h; exact ⟨wp_skip (hQ a w same), fun c0 e => by cases e⟩
    case h_2 => simp only [codeA] at h; cases h; exact ⟨wp_label (hQ a w same), fun c0 e => by cases e⟩
    case h_3 => simp only [codeA] at h; cases h; exact ⟨wp_ret (hQ a w same), fun c0 e => by cases e⟩
    case h_4 id => simp only [codeA] at h; cases h; exact ⟨wp_exit (hQ a w same), fun c0 e => by cases e⟩
    case h_5 id ops =>
      simp only [codeA, Option.map_eq_some_iff] at h hM
      obtain ⟨⟨T1, M1⟩, m1, hM⟩ := hM
      cases hM
      obtain ⟨⟨T1', H1⟩, h1, h⟩ := h
      cases h
      refine ⟨wp_region ?_, fun c0 e => by cases e⟩
      have := opsA_sound hc (Q := Q) ops.toList 0 _ _ _ _ _ _ m1 hu h1 rfl w ρ a R hT hf hQ
      rwa [List.range_eq_range', ← Array.length_toList]
    case h_6 id ops =>
      simp only [codeA, Option.map_eq_some_iff] at h hM
      obtain ⟨⟨T1, M1⟩, m1, hM⟩ := hM
      cases hM
      obtain ⟨⟨T1', H1⟩, h1, h⟩ := h
      cases h
      exact ⟨hd _ _ _ _ _ _ _ m1 hu h1 id w ρ a Q R hT hf hQ, fun c0 e => by cases e⟩
    case h_7 x y =>
      split at hM
      · rename_i T1 M1 m1
        obtain ⟨ts, t1, t2, t3, t4⟩ := codeA_trs hc.1 n _ _ _ _ _ _ hu.wf m1
        obtain ⟨us, u1, u2, u3, u4⟩ := codeA_trs hc.1 n _ _ _ _ _ _ t3 hM
        have hm2 : M1.next ≤ M'.next := by rw [u1]; exact u2.1
        have h1 := t4 H hu.sub (hu.head hm2).free
        simp only [codeA, h1] at h
        have hn1 : H.next ≤ (aps ts H).next := hu.le t2
        subst t1
        have hu2 : Und (aps ts M) (aps ts H) M'.next := hu.step t2 t3
        have hn2 : (aps ts H).next ≤ H'.next := by
          have := u4 _ hu2.sub hu2.free
          rw [h] at this
          cases this
          exact hu2.le u2
        refine ⟨wp_seq ?_, fun c0 e => by cases e⟩
        refine (codeA_sound hc hd n _ _ _ _ _ _ _ _ m1 (hu.head hm2) h1 w ρ a _ R hT (hf.head hn2) ?_).1
        rintro a1 w1 ⟨ρ1, g1, g2, g3, g4, g5, g6⟩
        refine (codeA_sound hc hd n _ _ _ _ _ _ _ _ hM hu2 h w1 ρ1 a1 Q g4 g3 (hf.tail g2 hn1) ?_).1
        intro a2 w2 hst
        exact hQ a2 w2 (St.trans g1 g2 hn1 (by rw [← g6]; exact hst))
      · rename_i hne
        obtain ⟨ts, t1, t2, t3, t4⟩ := codeA_trs hc.1 n _ _ _ _ _ _ hu.wf hM
        have h1 := t4 H hu.sub hu.free
        have hH : H' = aps ts H := by
          simp only [codeA, h1] at h
          cases ex with
          | normal => exact absurd hM (hne _ _)
          | _ => cases h; rfl
        subst hH
        refine ⟨wp_seq ?_, fun c0 e => by cases e⟩
        refine (codeA_sound hc hd n _ _ _ _ _ _ _ _ hM hu h1 w ρ a _ R hT hf ?_).1
        intro a1 w1 hst
        have := hQ a1 w1 hst
        cases ex with
        | normal => exact absurd hM (hne _ _)
        | exit id => exact this
        | ret => exact this
    case h_8 c1 x y =>
      split at hM
      · rename_i t ht
        simp only [codeA, ht] at h
        refine ⟨?_, fun c0 e => by cases e⟩
        have hr := eval_rel hT c1
        rw [ht] at hr
        simp only [rel] at hr
        exact wp_cond hr (codeA_sound hc hd n _ _ _ _ _ _ _ _ hM hu h w ρ a Q R hT hf hQ).1
      · cases hM
    case h_9 id x =>
      split at hM
      · rename_i id' T1 M1 m1
        obtain ⟨ts, t1, t2, t3, t4⟩ := codeA_trs hc.1 n _ _ _ _ _ _ hu.wf m1
        have hM1 : M1.next = M'.next := by split at hM <;> cases hM <;> rfl
        have h1 := t4 H hu.sub (by rw [hM1]; exact hu.free)
        simp only [codeA, h1] at h
        split at hM
        · rename_i hid
          cases hM
          rw [if_pos hid] at h
          cases h
          refine ⟨wp_block ?_, fun c0 e => by cases e⟩
          refine (codeA_sound hc hd n _ _ _ _ _ _ _ _ m1 hu h1 w ρ a _ R hT hf ?_).1
          intro a1 w1 hst
          simp only [exOf, Exit.inBlock, hid, if_true]
          exact hQ a1 w1 hst
        · rename_i hid
          cases hM
          rw [if_neg hid] at h
          cases h
          refine ⟨wp_block ?_, fun c0 e => by cases e⟩
          refine (codeA_sound hc hd n _ _ _ _ _ _ _ _ m1 hu h1 w ρ a _ R hT hf ?_).1
          intro a1 w1 hst
          simp only [exOf, Exit.inBlock, hid, if_false]
          exact hQ a1 w1 hst
      · rename_i hne
        obtain ⟨ts, t1, t2, t3, t4⟩ := codeA_trs hc.1 n _ _ _ _ _ _ hu.wf hM
        have h1 := t4 H hu.sub hu.free
        have hH : H' = aps ts H := by
          simp only [codeA, h1] at h
          cases ex with
          | exit id' => exact absurd hM (hne _ _ _)
          | _ => cases h; rfl
        subst hH
        refine ⟨wp_block ?_, fun c0 e => by cases e⟩
        refine (codeA_sound hc hd n _ _ _ _ _ _ _ _ hM hu h1 w ρ a _ R hT hf ?_).1
        intro a1 w1 hst
        have := hQ a1 w1 hst
        cases ex with
        | normal => exact this
        | exit id' => exact absurd hM (hne _ _ _)
        | ret => exact this
    case h_10 x =>
      have main : Code.rounds P x Q (n + 1) a w := by
        split at hM
        · rename_i T1 M1 m1
          obtain ⟨ts, t1, t2, t3, t4⟩ := codeA_trs hc.1 n _ _ _ _ _ _ hu.wf m1
          obtain ⟨us, u1, u2, u3, u4⟩ := codeA_trs hc.1 n _ _ _ _ _ _ t3 hM
          have hm2 : M1.next ≤ M'.next := by rw [u1]; exact u2.1
          have h1 := t4 H hu.sub (hu.head hm2).free
          rw [codeA] at h
          simp only [h1] at h
          have hn1 : H.next ≤ (aps ts H).next := hu.le t2
          subst t1
          have hu2 : Und (aps ts M) (aps ts H) M'.next := hu.step t2 t3
          have hn2 : (aps ts H).next ≤ H'.next := by
            have := u4 _ hu2.sub hu2.free
            rw [h] at this
            cases this
            exact hu2.le u2
          rw [rounds_succ]
          refine (codeA_sound hc hd n _ _ _ _ _ _ _ _ m1 (hu.head hm2) h1 w ρ a _ R hT (hf.head hn2) ?_).1
          rintro a1 w1 ⟨ρ1, g1, g2, g3, g4, g5, g6⟩
          refine (codeA_sound hc hd n _ _ _ _ _ _ _ _ hM hu2 h w1 ρ1 a1 Q g4 g3 (hf.tail g2 hn1) ?_).2 x rfl
          intro a2 w2 hst
          exact hQ a2 w2 (St.trans g1 g2 hn1 (by rw [← g6]; exact hst))
        · rename_i hne
          obtain ⟨ts, t1, t2, t3, t4⟩ := codeA_trs hc.1 n _ _ _ _ _ _ hu.wf hM
          have h1 := t4 H hu.sub hu.free
          have hH : H' = aps ts H := by
            rw [codeA] at h
            simp only [h1] at h
            cases ex with
            | normal => exact absurd hM (hne _ _)
            | _ => cases h; rfl
          subst hH
          rw [rounds_succ]
          refine (codeA_sound hc hd n _ _ _ _ _ _ _ _ hM hu h1 w ρ a _ R hT hf ?_).1
          intro a1 w1 hst
          have := hQ a1 w1 hst
          cases ex with
          | normal => exact absurd hM (hne _ _)
          | exit id => exact this
          | ret => exact this
      refine ⟨wp_loop_rounds (n + 1) main, fun c0 e => ?_⟩
      cases e
      exact main
    case h_11 => cases hM
theorem relL_mapM {α : Type} {f : α → Option AV} {g : α → Sem Value} {w : World} {ρ : LMap} (hfg : ∀ x a, f x = some a → ∃ v, (g x).run P w = .ok v w ∧ rel ρ a v) : ∀ {l : List α} {r : List AV}, l.mapM f = some r →
    ∃ vs, (l.mapM g).run P w = .ok vs w ∧ relL ρ r vs
  | [], r, h => by simp at h; subst h; exact ⟨[], rfl, relL_nil.2 rfl⟩
  | x :: l, r, h => by
    simp only [List.mapM_cons, Option.bind_eq_bind, Option.bind_eq_some_iff] at h
    obtain ⟨a, ha, as, has, h⟩ := h
    cases h
    obtain ⟨v, h1, h2⟩ := hfg x a ha
    obtain ⟨vs, g1, g2⟩ := relL_mapM hfg has
    exact ⟨v :: vs, by simp [List.mapM_cons, h1, g1], relL_cons.2 ⟨h2, g2⟩⟩
theorem resultsA_sound {H : AHeap} {w : World} {ρ : LMap} (R : Rep E w0 H w ρ) {fn : Func} {T : List AV} {v : AV} {tmps : Array Value} (h : resultsA P E H fn T = some v) (hT : relL ρ T tmps.toList) :
    ∃ u, (results fn tmps).run P w = .ok u w ∧ rel ρ v u := by
  unfold resultsA at h
  simp only [Option.bind_eq_bind, Option.bind_eq_some_iff] at h
  obtain ⟨r, hr, h⟩ := h
  obtain ⟨vs, g1, g2⟩ := relL_mapM (P := P) (w := w) (ρ := ρ) (g := fun
    | .tmp t => pure (tmps.getD t undef)
    | .cell a t => do loadVar t (← asAddr (tmps.getD a undef))) (by
      intro x a hx
      cases x with
      | tmp t => simp only at hx; cases hx; exact ⟨_, rfl, relL_getD hT t⟩
      | cell a t =>
        simp only at hx
        split at hx
        · rename_i o i ha
          have hr := relL_getD hT a
          rw [ha] at hr
          simp only [rel] at hr
          obtain ⟨b, d, hb, hv⟩ := hr
          obtain ⟨b', d', u, k1, k2, k3⟩ := loadVarA_sound (P := P) R hx
          rw [hb] at k1; cases k1
          refine ⟨u, ?_, k3⟩
          simp only [hv, asAddr, Sem.run_bind, Sem.run_pure, Result.andThen_ok, k2]
        · cases hx) hr
  have hm : (fn.results.mapM (fun
    | .tmp t => pure (tmps.getD t undef)
    | .cell a t => do loadVar t (← asAddr (tmps.getD a undef)) : ResultVar → Sem Value)).run P w = .ok ⟨vs⟩ w := by
    rw [Array.mapM_eq_mapM_toList]
    simp only [Sem.run_map, g1, Result.andThen_ok]
  have hl := relL_length g2
  have hrun : (results fn tmps).run P w = .ok (if h : (⟨vs⟩ : Array Value).size = 1 then (⟨vs⟩ : Array Value)[0] else .tuple ⟨vs⟩) w := by
    unfold results
    rw [Sem.run_bind]
    erw [hm]
    rfl
  refine ⟨_, hrun, ?_⟩
  split at h
  · rename_i v' 
    cases h
    obtain ⟨x, rfl, hx⟩ := rel_one g2
    simpa using hx
  · rename_i hne
    cases h
    have : vs.length ≠ 1 := by
      intro e
      rw [e] at hl
      obtain ⟨x, rfl⟩ := List.length_eq_one_iff.1 hl
      exact hne x rfl
    rw [dif_neg (by simpa using this)]
    simp only [rel]
    exact ⟨_, rfl, g2⟩
/-- CALLS: what the abstract machine tells of a call, the model does. -/
theorem callFA_sound (hd : ∀ call, CallOk P E w0 call → DrawOk P E w0 call) {ov : OvF} (hov : CallOk P E w0 (ovCall ov)) : ∀ n, CallOk P E w0 (callFA P E ov n)
  | 0 => ⟨callFA_trs P E hov.1 0, fun f args M H v M' H' hM hu h => by simp [callFA] at h⟩
  | n + 1 => ⟨callFA_trs P E hov.1 (n + 1), fun f args M H v M' H' hM hu h => by
    have ih := callFA_sound hd hov n
    intro w ρ vargs R hr hf
    unfold callFA at hM
    split at hM
    · rename_i g hg
      refine hov.2 f args M H v M' H' (by unfold ovCall; rw [hg]; exact hM) hu ?_ w ρ vargs R hr hf
      unfold ovCall
      rw [hg]
      simp only [callFA, hg] at h
      exact h
    rename_i hg
    split at hM
    · rename_i fn hfn
      split at hM
      · rename_i c hb
        have main : ∀ {ex T M1}, codeA P E (callFA P E ov n) n c (args ++ List.replicate (fn.ntmps - args.length) undefA) M = some (ex, T, M1) → (ex = .normal ∨ ex = .ret) → (resultsA P E M1 fn T).map (fun v => (v, M1)) = some (v, M') →
              Calls P f vargs w fun e w' => ∃ u ρ', e = .returned u ∧ Ext ρ ρ' ∧ (∀ k, ¬ (H.next ≤ k ∧ k < H'.next) → ρ' k = ρ k) ∧ rel ρ' v u ∧ Rep E w0 H' w' ρ' := by
          intro ex T M1 m1 hex hres
          simp only [Option.map_eq_some_iff, Prod.mk.injEq] at hres
          obtain ⟨v', hv, rfl, rfl⟩ := hres
          obtain ⟨ts, t1, t2, t3, t4⟩ := codeA_trs ih.1 n _ _ _ _ _ _ hu.wf m1
          have h1 := t4 H hu.sub hu.free
          have hres := resultsA_sub (H := aps ts H) (by rw [t1]; exact hu.sub.aps ts) hv
          have hH : H' = aps ts H := by
            rcases hex with rfl | rfl <;> (simp only [callFA, hg, hfn, hb, h1, hres, Option.map_some] at h; cases h; rfl)
          subst hH
          refine calls_of_wp hfn hb ?_
          refine (codeA_sound ih (hd _ ih) n _ _ _ _ _ _ _ _ m1 hu h1 w ρ { tmps := vargs ++ Array.replicate (fn.ntmps - vargs.size) undef, defers := [] } _ R ?_ hf ?_).1
          · have hl := relL_length hr
            simp only [Array.length_toList] at hl
            rw [Array.toList_append, Array.toList_replicate, ← hl]
            refine relL_append hr ?_
            generalize fn.ntmps - args.length = m
            induction m with
            | zero => exact relL_nil.2 rfl
            | succ m ihm => exact relL_cons.2 ⟨rel_undef, ihm⟩
          · rintro a' w' ⟨ρ', g1, g2, g3, g4, g5, g6⟩
            obtain ⟨u, k1, k2⟩ := resultsA_sound (P := P) g4 hres g3
            have : bodyPost P fn (fun e w' => ∃ u ρ', e = .returned u ∧ Ext ρ ρ' ∧ (∀ k, ¬ (H.next ≤ k ∧ k < (aps ts H).next) → ρ' k = ρ k) ∧ rel ρ' v' u ∧ Rep E w0 (aps ts H) w' ρ') .normal a' w' :=
              ⟨g6, u, k1, u, ρ', rfl, g1, g2, k2, g4⟩
            rcases hex with rfl | rfl
            · exact this
            · exact this
        split at hM
        · rename_i T M1 m1
          exact main m1 (.inl rfl) hM
        · rename_i T M1 m1
          exact main m1 (.inr rfl) hM
        · cases hM
      · cases hM
    · cases hM⟩
end
end Go.Am
end

section
namespace Go.Am
theorem ancOf_on {ds : List Done} : ∀ (es : List Edge) (m r : Nat), ancOf ds es m = some r → ∀ e ∈ es, Region.binds .any e = true → e.on < ds.length
  | [], m, r, h, e, he, _ => by cases he
  | x :: es, m, r, h, e, he, hb => by
    simp only [ancOf] at h
    split at h
    · rename_i hx
      split at h
      · rename_i d hd
        rcases List.mem_cons.1 he with rfl | he
        · exact (List.getElem?_eq_some_iff.1 hd).1
        · exact ancOf_on es _ _ h e he hb
      · cases h
    · rename_i hx
      rcases List.mem_cons.1 he with rfl | he
      · exact (hx hb).elim
      · exact ancOf_on es _ _ h e he hb
theorem ancOf_sub {ds : List Done} {S : Nat → Prop} : ∀ (es : List Edge) (m r : Nat), ancOf ds es m = some r → (∀ j, m.testBit j = true → S j) →
    (∀ e ∈ es, Region.binds .any e = true → S e.on ∧ ∀ d, ds[e.on]? = some d → ∀ j, d.anc.testBit j = true → S j) → ∀ j, r.testBit j = true → S j
  | [], m, r, h, hm, _ => by simp only [ancOf] at h; cases h; exact hm
  | x :: es, m, r, h, hm, he => by
    simp only [ancOf] at h
    split at h
    · rename_i hx
      split at h
      · rename_i d hd
        refine ancOf_sub es _ _ h ?_ fun e hm => he e (List.mem_cons_of_mem _ hm)
        obtain ⟨h1, h2⟩ := he x List.mem_cons_self hx
        intro j hj
        rw [Nat.testBit_or, Nat.testBit_or, Nat.testBit_two_pow, Bool.or_eq_true, Bool.or_eq_true, decide_eq_true_eq] at hj
        rcases hj with (hj | rfl) | hj
        · exact hm j hj
        · exact h1
        · exact h2 d hd j hj
      · cases h
    · exact ancOf_sub es _ _ h hm fun e hm => he e (List.mem_cons_of_mem _ hm)
theorem greatest {p : Nat → Prop} : ∀ (N : Nat), (∀ x, p x → x < N) → (∀ x, ¬ p x) ∨ ∃ m, p m ∧ ∀ x, p x → x ≤ m
  | 0, h => .inl fun x hx => by have := h x hx; omega
  | N + 1, h => by
    by_cases hN : p N
    · exact .inr ⟨N, hN, fun x hx => by have := h x hx; omega⟩
    · refine greatest N fun x hx => ?_
      have := h x hx
      have : x ≠ N := fun e => hN (e ▸ hx)
      omega
theorem foldG_none {D : Nat → Bool} : ∀ (ds : List Done) (j : Nat) (H : AHeap), (∀ m, j ≤ m → D m = false) → foldG D j ds H = H
  | [], _, _, _ => rfl
  | d :: ds, j, T, h => by
    simp only [foldG, h j (Nat.le_refl _), Bool.false_eq_true, if_false]
    exact foldG_none ds (j + 1) T fun m hm => h m (by omega)
section
variable {E : Env} {w0 : World} {P : Program} {call : CallF} {ops : Array Oper}
theorem Good.anc_lt {H : AHeap} {T0 T : List AV} {ds : List Done} {n : Nat} (G : Good P E call ops H T0 ds T n) : ∀ (N i : Nat) (d : Done), i < N → ds[i]? = some d → ∀ j, d.anc.testBit j = true → j < i
  | 0, i, d, h, _ => by omega
  | N + 1, i, d, h, hd => by
    have hl := (List.getElem?_eq_some_iff.1 hd).1
    refine ancOf_sub (S := fun j => j < i) _ _ _ (G.anc i d hd) (fun j hj => by simp at hj) ?_
    intro e he hb
    have hon := ancOf_on _ _ _ (G.anc i d hd) e he hb
    rw [List.length_take] at hon
    refine ⟨by omega, fun d' hd' j hj => ?_⟩
    rw [List.getElem?_take] at hd'
    split at hd'
    · have := G.anc_lt N e.on d' (by omega) hd' j hj
      omega
    · cases hd'
def isL (L : Array Bool) (x : Nat) : Bool := L.getD x false
def Closed (ds : List Done) (L : Array Bool) : Prop := ∀ (i : Nat) (d : Done), ds[i]? = some d → isL L i = true → ∀ j, d.anc.testBit j = true → isL L j = true
/-- A state in the midst of a region. -/
structure Inv (E : Env) (w0 : World) (ops : Array Oper) (dsF : List Done) (nF : Nat) (H : AHeap) (T0 : List AV) (ρ0 : LMap) (defs : List Deferred) (L : Array Bool) (a : Act) (w : World) (ρ : LMap) : Prop where
  size : L.size = ops.size
  ext : Ext ρ0 ρ
  out : ∀ k, ¬ (H.next ≤ k ∧ k < nF) → ρ k = ρ0 k
  fresh : ∀ (i : Nat) (d : Done), dsF[i]? = some d → isL L i = false → ∀ k, d.lo ≤ k → k < d.hi → ρ k = none
  row : relL ρ (foldT (isL L) 0 dsF T0) a.tmps.toList
  rep : Rep E w0 (foldG (isL L) 0 dsF H) w ρ
  defs : a.defers = defs
  closed : Closed dsF L
theorem Good.ready_anc {H : AHeap} {T0 T : List AV} {ds : List Done} {n : Nat} (G : Good P E call ops H T0 ds T n) {L : Array Bool} (hcl : Closed ds L) {i : Nat} {d : Done} (hd : ds[i]? = some d)
    (ha : ∀ e ∈ d.o.after, Region.binds .any e = true → L.getD e.on false = true) : ∀ j, d.anc.testBit j = true → isL L j = true := by
  refine ancOf_sub (S := fun j => isL L j = true) _ _ _ (G.anc i d hd) (fun j hj => by simp at hj) ?_
  intro e he hb
  have h1 : isL L e.on = true := ha e (by simpa using he) hb
  refine ⟨h1, fun d' hd' j hj => ?_⟩
  rw [List.getElem?_take] at hd'
  split at hd'
  · exact hcl _ _ hd' h1 j hj
  · cases hd'
/-- The part of the heap over which an operation has been looked at, and that lies in the heap that it now meets. -/
theorem Good.view {M H : AHeap} {T0 T : List AV} {ds : List Done} {n : Nat} (G : Good P E call ops M T0 ds T n) (hw : Wf M) (hs : ∀ k o, M.get k = some o → H.get k = some o) {L : Array Bool} (hcl : Closed ds L) {i : Nat} {d : Done} (hd : ds[i]? = some d)
    (hi : isL L i = false) (ha : ∀ j, d.anc.testBit j = true → isL L j = true) :
    ∃ (p : Nat → Done → Bool) (c : Nat), Ev P E call ops (maskR d.lo p 0 (ds.take c) M) d ∧ ∀ k o, (maskR d.lo p 0 (ds.take c) M).get k = some o → (foldG (isL L) 0 ds H).get k = some o := by
  obtain ⟨ok, hlo, hhi⟩ := G.ch.at i d hd
  have hbase : ∀ k o, M.get k = some o → H.get k = some o ∧ k < M.next ∧ k < d.lo := by
    intro k o hk
    have := hw.lt hk
    exact ⟨hs k o hk, this, by omega⟩
  have key : ∀ (p : Nat → Done → Bool) (c : Nat), (∀ (x : Nat) (e : Done), ds[x]? = some e → p x e = true → x < c → isL L x = true) →
      (∀ (x : Nat) (e : Done), ds[x]? = some e → isL L x = true → e.wr = true → p x e = true ∧ x < c) →
      ∀ k o, (maskR d.lo p 0 (ds.take c) M).get k = some o → (foldG (isL L) 0 ds H).get k = some o := by
    intro p c h1 h2
    rw [maskR_take]
    refine mask_le ds 0 M.next n M H G.ch ?_ ?_ hbase
    · intro x e he hp
      simp only [Nat.zero_add, Bool.and_eq_true, decide_eq_true_eq] at hp ⊢
      exact h1 x e he hp.1 hp.2
    · intro x e he hD hp
      simp only [Nat.zero_add, Bool.and_eq_false_iff, decide_eq_false_iff_not] at hp hD
      cases hwr : e.wr with
      | false => rfl
      | true =>
        obtain ⟨a, b⟩ := h2 x e he hD hwr
        rcases hp with hp | hp
        · rw [a] at hp; cases hp
        · exact (hp b).elim
  rcases greatest (p := fun x => ∃ e, ds[x]? = some e ∧ e.wr = true ∧ isL L x = true ∧ d.anc.testBit x = false) ds.length (fun x ⟨e, he, _⟩ => (List.getElem?_eq_some_iff.1 he).1) with hno | ⟨m, ⟨e, he, hew, hem, hea⟩, hmax⟩
  · refine ⟨fun j _ => d.anc.testBit j, i, G.ev i d hd, key _ _ (fun x e he hp _ => ha x hp) fun x e he hx hwr => ?_⟩
    have : d.anc.testBit x = true := by
      cases hb : d.anc.testBit x with
      | true => rfl
      | false => exact (hno x ⟨e, he, hwr, hx, hb⟩).elim
    exact ⟨this, G.anc_lt (i + 1) i d (by omega) hd x this⟩
  · have hmi : m ≠ i := by rintro rfl; rw [hem] at hi; cases hi
    have hei : e.anc.testBit i = false := by
      cases hb : e.anc.testBit i with
      | false => rfl
      | true => have := hcl m e he hem i hb; rw [hi] at this; cases this
    obtain ⟨w1, w2, w3⟩ := G.wrs i m d e hd he hew hmi hea (fun _ => hei)
    refine ⟨_, _, w2, key _ _ (fun x f hf hp _ => ?_) fun x f hf hx hwr => ?_⟩
    · simp only [Bool.or_eq_true, Bool.and_eq_true, decide_eq_true_eq] at hp
      rcases hp with hp | ⟨hp1, hp2⟩
      · exact ha x hp
      · by_cases hxm : x = m
        · subst hxm; exact hem
        · cases hb : e.anc.testBit x with
          | true => exact hcl m e he hem x hb
          | false =>
            have := (G.wrs m x e f he hf hp1 hxm hb (fun q => by omega)).1
            rw [hew] at this; cases this
    · cases hb : d.anc.testBit x with
      | true =>
        have := G.anc_lt (i + 1) i d (by omega) hd x hb
        exact ⟨by simp, by omega⟩
      | false =>
        have := hmax x ⟨f, hf, hwr, hx, hb⟩
        exact ⟨by simp [hwr, this], by omega⟩
theorem Good.agree {M : AHeap} {T0 T : List AV} {ds : List Done} {n : Nat} (G : Good P E call ops M T0 ds T n) {L : Array Bool} (hcl : Closed ds L) {i : Nat} {d : Done} (hd : ds[i]? = some d)
    (hi : isL L i = false) (ha : ∀ j, d.anc.testBit j = true → isL L j = true) : Agree ops d.o (foldT (isL L) 0 ds T0) d.T := by
  intro t ht
  rw [G.old i d hd, foldT_take]
  refine foldT_agree ds 0 T0 T0 ?_ rfl
  intro x e he hne hdst
  simp only [Nat.zero_add] at hne
  by_cases hxi : x < i
  · have : isL L x = false := by
      cases hb : isL L x with
      | false => rfl
      | true => rw [hb] at hne; exact (hne (by simp [hxi])).elim
    rcases G.apart i x d e hxi hd he with h | h
    · have := ha x h; simp_all
    · exact (Oper.apart_spec h).2.2 t hdst ht
  · have hx : isL L x = true := by
      cases hb : isL L x with
      | true => rfl
      | false => rw [hb] at hne; exact (hne (by simp [hxi])).elim
    have hix : i < x := by
      have : x ≠ i := by rintro rfl; rw [hi] at hx; cases hx
      omega
    rcases G.apart x i e d hix he hd with h | h
    · have := hcl x e he hx i h; rw [hi] at this; cases this
    · exact (Oper.apart_spec h).1 t hdst ht
theorem isL_set {L : Array Bool} {i : Nat} (h : i < L.size) (x : Nat) : isL (L.setIfInBounds i true) x = (x == i || isL L x) := by
  unfold isL
  by_cases e : x = i
  · subst e
    simp [h]
  · have : (x == i) = false := by simp [e]
    rw [this, Bool.false_or, getD_set_ne _ (Ne.symm e)]
end
end Go.Am
end

section
namespace Go.Am
section
variable {E : Env} {w0 : World} {P : Program} {call : CallF} {ops : Array Oper}
theorem draw_step (hc : CallOk P E w0 call) {M H : AHeap} {T0 T : List AV} {ds : List Done} {n : Nat} (G : Good P E call ops M T0 ds T n) (hw : Wf M) (hs : Sub M H) {ρ0 : LMap} {defs : List Deferred}
    {L : Array Bool} {a : Act} {w : World} {ρ : LMap} (I : Inv E w0 ops ds n H T0 ρ0 defs L a w ρ) {i : Nat} (hr : i ∈ Region.ready .any ops L) (hlen : ds.length = ops.size)
    {K : Act → World → Prop} {Q : Exit → Act → World → Prop} (hK : ∀ a' w' ρ', Inv E w0 ops ds n H T0 ρ0 defs (L.setIfInBounds i true) a' w' ρ' → K a' w') : wpOp P ops Q i K a w := by
  obtain ⟨hi0, o, ho, hedge⟩ := mem_ready.1 hr
  have hil : i < ops.size := (Array.getElem?_eq_some_iff.1 ho).1
  have hi : isL L i = false := by
    unfold isL
    have hsz := I.size
    rw [Array.getD_eq_getD_getElem?] at hi0 ⊢
    rw [Array.getElem?_eq_getElem (by omega)] at hi0 ⊢
    exact hi0
  obtain ⟨d, hd⟩ : ∃ d, ds[i]? = some d := ⟨ds[i]'(by omega), List.getElem?_eq_getElem (by omega)⟩
  have hdo : d.o = o := by
    have := G.op i d hd
    rw [ho] at this
    exact (Option.some.inj this).symm
  subst hdo
  have ha := G.ready_anc I.closed hd hedge
  obtain ⟨p, c, ⟨Mr, hev, hnext, hkeep⟩, hview⟩ := G.view hw hs.get I.closed hd hi ha
  obtain ⟨ok, hlo, hhi⟩ := G.ch.at i d hd
  have hag := G.agree I.closed hd hi ha
  rw [← stepA_congr hag] at hev
  have hMn : H.next = M.next := hs.next
  have hfree : ∀ k, d.lo ≤ k → k < d.hi → (foldG (isL L) 0 ds H).get k = none := fun k h1 h2 => I.rep.get_none (I.fresh i d hd hi k h1 h2)
  have hu : Und (atN (maskR d.lo p 0 (ds.take c) M) d.lo) (atN (foldG (isL L) 0 ds H) d.lo) Mr.next :=
    ⟨mask_wf hw hlo p 0 _, ⟨hview, rfl, rfl⟩, fun k h1 h2 => hfree k h1 (by rw [← hnext]; exact h2)⟩
  obtain ⟨ts, t1, t2, t3, t4⟩ := stepA_trs hc.1 hu.wf hev
  have hstep := t4 _ hu.sub hu.free
  have hn2 : (aps ts (atN (foldG (isL L) 0 ds H) d.lo)).next = d.hi := by
    rw [← hnext, t1]; exact next_aps_eq ts rfl
  have hdis : ∀ (m : Nat) (e : Done), i < m → ds[m]? = some e → isL L m = true → ∀ k ∈ e.kv.map (·.1), k ∉ d.kv.map (·.1) := by
    intro m e him he hm k hk hk'
    have hnei : e.anc.testBit i = false := by
      cases hb : e.anc.testBit i with
      | false => rfl
      | true => have := I.closed m e he hm i hb; rw [hi] at this; cases this
    have hlt := G.ch.lt i m d e him hd he
    have h1 := ok.key k hk'
    obtain ⟨oke, _, _⟩ := G.ch.at m e he
    cases hew : e.wr with
    | false => have := oke.new hew k hk; omega
    | true =>
      have hdm : d.anc.testBit m = false := by
        cases hb : d.anc.testBit m with
        | false => rfl
        | true => have := G.anc_lt (i + 1) i d (by omega) hd m hb; omega
      obtain ⟨w1, w2, w3⟩ := G.wrs i m d e hd he hew (by omega) hdm (fun _ => hnei)
      have h2 := ok.new w1 k hk'
      rcases w3 him k hk with h3 | h3 <;> omega
  have hdst : ∀ (m : Nat) (e : Done), i < m → ds[m]? = some e → isL L m = true → ∀ x, d.o.dst = some x → e.o.dst ≠ some x := by
    intro m e him he hm x hx hx'
    rcases G.apart m i e d him he hd with h | h
    · have := I.closed m e he hm i h; rw [hi] at this; cases this
    · exact (Oper.apart_spec h).2.1 x hx' hx
  have hisL : isL (L.setIfInBounds i true) = fun x => x == 0 + i || isL L x := by
    funext x
    rw [isL_set (by rw [I.size]; exact hil), Nat.zero_add]
  refine stepA_sound hc hev hu hstep ho (I.rep.log_eq rfl) I.row ?_ ?_
  · intro k h1 h2
    rw [hn2] at h2
    exact I.fresh i d hd hi k h1 h2
  · intro ρ' vv w' g1 g2 g3 g4
    have hout : ∀ k, ¬ (d.lo ≤ k ∧ k < d.hi) → ρ' k = ρ k := fun k hk => g2 k (by rw [hn2]; exact hk)
    refine hK _ _ ρ' ⟨?_, I.ext.trans g1, ?_, ?_, ?_, ?_, ?_, ?_⟩
    · rw [Array.size_setIfInBounds]; exact I.size
    · intro k hk
      rw [hout k (by omega), I.out k hk]
    · intro j e he hj k h1 h2
      rw [hisL] at hj
      simp only [Nat.zero_add, Bool.or_eq_false_iff, beq_eq_false_iff_ne] at hj
      rw [hout k ?_, I.fresh j e he hj.2 k h1 h2]
      intro hk
      rcases Nat.lt_or_gt_of_ne hj.1 with h | h
      · have := G.ch.lt j i e d h he hd; omega
      · have := G.ch.lt i j d e h hd he; omega
    · rw [hisL, foldT_insert ds 0 i T0 hd (by rw [Nat.zero_add]; exact hi) (by simpa using hdst)]
      exact put_rel (relL_ext g1 _ _ I.row) g3
    · refine Rep.less g4 fun k x hk => ⟨x, ?_, .inl rfl⟩
      have hval : ∀ y ∈ d.kv, y.2 = Mr.get y.1 := by rw [← hkeep]; exact keep_val
      rw [hisL, foldG_insert hval ds 0 i H (fun j e he => (G.ch.at j e he).1) hd (by rw [Nat.zero_add]; exact hi) (by simpa using hdis)] at hk
      rw [← hk]
      have hkeys : ∀ k, k ∈ d.kv.map (·.1) ↔ (k ∈ Mr.log ∧ k < d.lo) ∨ (d.lo ≤ k ∧ k < d.hi ∧ (Mr.get k).isSome = true) := fun k => by rw [← hkeep]; exact keep_key
      have hlog : ∀ k, k ∈ Mr.log ↔ ∃ o, Tr.put k o true ∈ ts := fun k => by rw [t1, log_aps]; simp [atN]
      by_cases hkk : k ∈ d.kv.map (·.1)
      · rw [if_pos hkk, t1]
        refine aps_touched ts _ _ k ?_
        rcases (hkeys k).1 hkk with ⟨h1, _⟩ | ⟨h1, h2, h3⟩
        · obtain ⟨x, hx⟩ := (hlog k).1 h1
          exact .inr ⟨x, true, hx⟩
        · left
          rw [show (atN (foldG (isL L) 0 ds H) d.lo).get k = none from hfree k h1 h2, hu.wf.1 k h1]
      · rw [if_neg hkk]
        by_cases htk : ∃ x lg, Tr.put k x lg ∈ ts
        · obtain ⟨x, lg, hx⟩ := htk
          have hb := t2.2 k x lg hx
          have hkhi : k < d.hi := by rw [← hnext, t1]; exact hb.2
          have hklo : d.lo ≤ k := by
            refine Nat.le_of_not_lt fun h => ?_
            cases lg with
            | false => have : d.lo ≤ k := hb.1 rfl; omega
            | true => exact hkk ((hkeys k).2 (.inl ⟨(hlog k).2 ⟨x, hx⟩, h⟩))
          have hnone : Mr.get k = none := by
            cases hg : Mr.get k with
            | none => rfl
            | some y => exact (hkk ((hkeys k).2 (.inr ⟨hklo, hkhi, by rw [hg]; rfl⟩))).elim
          rw [hfree k hklo hkhi, ← hnone, t1]
          refine aps_touched ts _ _ k (.inl ?_)
          rw [show (atN (foldG (isL L) 0 ds H) d.lo).get k = none from hfree k hklo hkhi, hu.wf.1 k hklo]
        · rw [aps_untouched ts _ k fun x lg hm => htk ⟨x, lg, hm⟩]
          rfl
    · rw [put_defers]; exact I.defs
    · intro j e he hj x hx
      rw [hisL] at hj ⊢
      simp only [Nat.zero_add, Bool.or_eq_true, beq_iff_eq] at hj ⊢
      rcases hj with rfl | hj
      · rw [hd] at he; cases he
        exact .inr (ha x hx)
      · exact .inr (I.closed j e he hj x hx)
def unl (n : Nat) (L : Array Bool) : Nat := (List.range n).countP fun x => !isL L x
theorem countP_less {p q : Nat → Bool} {i : Nat} : ∀ (l : List Nat), (∀ x ∈ l, q x = true → p x = true) → i ∈ l → p i = true → q i = false → l.countP q < l.countP p
  | [], _, h, _, _ => by cases h
  | x :: l, h, hm, hp, hq => by
    have hmono : l.countP q ≤ l.countP p := List.countP_mono_left fun y hy => h y (List.mem_cons_of_mem _ hy)
    by_cases hxi : x = i
    · subst hxi
      rw [List.countP_cons_of_pos hp, List.countP_cons_of_neg (by rw [hq]; exact Bool.false_ne_true)]
      omega
    · have hm' : i ∈ l := by
        rcases List.mem_cons.1 hm with e | e
        · exact (hxi e.symm).elim
        · exact e
      have := countP_less l (fun y hy => h y (List.mem_cons_of_mem _ hy)) hm' hp hq
      have hx := h x List.mem_cons_self
      rw [List.countP_cons, List.countP_cons]
      cases hqx : q x
      · simp; omega
      · rw [hx hqx]; simp; omega
theorem unl_set {n i : Nat} {L : Array Bool} (hn : i < n) (hs : i < L.size) (h : isL L i = false) : unl n (L.setIfInBounds i true) < unl n L := by
  refine countP_less (i := i) _ ?_ (List.mem_range.2 hn) (by rw [h]; rfl) (by rw [isL_set hs]; simp)
  intro x _ hx
  rw [isL_set hs] at hx
  simp only [Bool.not_eq_true', Bool.or_eq_false_iff] at hx
  rw [hx.2]; rfl
theorem unl_zero {n : Nat} {L : Array Bool} (h : unl n L = 0) (i : Nat) (hi : i < n) : isL L i = true := by
  have := List.countP_eq_zero.1 h i (List.mem_range.2 hi)
  simpa using this
theorem all_listed {M : AHeap} {T0 T : List AV} {ds : List Done} {n : Nat} (G : Good P E call ops M T0 ds T n) (hlen : ds.length = ops.size) {L : Array Bool} (hsz : L.size = ops.size) (h : Region.ready .any ops L = []) : ∀ (N j : Nat), j < N → j < ops.size → isL L j = true
  | 0, j, h, _ => by omega
  | N + 1, j, hj, hjs => by
    cases hb : isL L j with
    | true => rfl
    | false =>
      have hm : j ∈ Region.ready .any ops L := by
        rw [mem_ready]
        refine ⟨?_, ops[j], Array.getElem?_eq_getElem hjs, fun e he hbn => ?_⟩
        · unfold isL at hb
          rw [Array.getD_eq_getD_getElem?] at hb ⊢
          rw [Array.getElem?_eq_getElem (by omega)] at hb ⊢
          exact hb
        · have hd : ds[j]? = some (ds[j]'(by omega)) := List.getElem?_eq_getElem (by omega)
          have hop := G.op j _ hd
          rw [Array.getElem?_eq_getElem hjs] at hop
          rw [Option.some.inj hop] at he
          have hon := ancOf_on _ _ _ (G.anc j _ hd) e (by simpa using he) hbn
          rw [List.length_take] at hon
          exact all_listed G hlen hsz h N e.on (by omega) (by omega)
      rw [h] at hm
      cases hm
theorem draw_any (hc : CallOk P E w0 call) {M H : AHeap} {T0 T : List AV} {ds : List Done} {n : Nat} (G : Good P E call ops M T0 ds T n) (hw : Wf M) (hs : Sub M H) (hlen : ds.length = ops.size) {ρ0 : LMap} {defs : List Deferred} {Q : Exit → Act → World → Prop}
    (hQ : ∀ L a w ρ, Inv E w0 ops ds n H T0 ρ0 defs L a w ρ → (∀ i, i < ops.size → isL L i = true) → Q .normal a w) :
    ∀ (fuel : Nat) (L : Array Bool) (a : Act) (w : World) (ρ : LMap), Inv E w0 ops ds n H T0 ρ0 defs L a w ρ → unl ops.size L ≤ fuel → wpAny P .any ops Q fuel L a w
  | 0, L, a, w, ρ, I, hf => by
    have hall := unl_zero (n := ops.size) (L := L) (by omega)
    refine ⟨?_, hQ L a w ρ I hall⟩
    rw [List.eq_nil_iff_forall_not_mem]
    intro i hi
    obtain ⟨hi0, o, ho, _⟩ := mem_ready.1 hi
    have hil : i < ops.size := (Array.getElem?_eq_some_iff.1 ho).1
    have h1 := hall i hil
    unfold isL at h1
    have hsz := I.size
    rw [Array.getD_eq_getD_getElem?, Array.getElem?_eq_getElem (by omega)] at hi0 h1
    simp only [Option.getD_some] at hi0 h1
    rw [h1] at hi0; cases hi0
  | fuel + 1, L, a, w, ρ, I, hf => by
    refine ⟨fun hr => hQ L a w ρ I fun i hi => all_listed G hlen I.size hr (i + 1) i (by omega) hi, fun i hi => ?_⟩
    refine draw_step hc G hw hs I hi hlen ?_
    intro a' w' ρ' I'
    refine draw_any hc G hw hs hlen hQ fuel _ a' w' ρ' I' ?_
    obtain ⟨hi0, o, ho, _⟩ := mem_ready.1 hi
    have hil : i < ops.size := (Array.getElem?_eq_some_iff.1 ho).1
    have hsz := I.size
    have hb : isL L i = false := by
      unfold isL
      rw [Array.getD_eq_getD_getElem?, Array.getElem?_eq_getElem (by omega)] at hi0 ⊢
      exact hi0
    have := unl_set (n := ops.size) hil (by omega) hb
    omega
theorem draw_sound (hm : P.follows .mixedOrders = true) (hc : CallOk P E w0 call) : DrawOk P E w0 call := by
  intro ops T0 M H T' M' H' hM hu hH id w ρ a Q R hT hf hQ
  obtain ⟨ds, n, G, hlen, hM', hle, hrun⟩ := drawA_good hc.1 hu.wf ops.toList [] T0 M.next T' M' (Good.nil M T0) rfl hM
  have hn : M'.next = n := by rw [hM']
  have hH2 := hrun H hu.sub.get (by rw [← hn]; exact hu.free)
  have hMn : H.next = M.next := hu.sub.next
  rw [hMn, hH2] at hH
  cases hH
  refine wp_region_any hm ?_
  have hL : ∀ m, isL (Array.replicate ops.size false) m = false := by
    intro m
    unfold isL
    rw [Array.getD_eq_getD_getElem?, Array.getElem?_replicate]
    split <;> rfl
  have hf' : ∀ k, M.next ≤ k → k < n → ρ k = none := fun k h1 h2 => hf k (by rw [hMn]; exact h1) h2
  refine draw_any hc G hu.wf hu.sub hlen (ρ0 := ρ) (defs := a.defers) ?_ ops.size _ a _ ρ ?_ ?_
  · intro L a' w' ρ' I hall
    have hD : ∀ m, 0 ≤ m → m < 0 + ds.length → isL L m = (fun _ => true) m := fun m _ h => hall m (by omega)
    have hrow := I.row
    rw [foldT_congr ds 0 T0 hD, ← G.row] at hrow
    have hrep := I.rep
    rw [foldG_congr ds 0 H hD, foldG_all] at hrep
    exact hQ a' w' ⟨ρ', I.ext, I.out, hrow, hrep.log_eq rfl, by rw [hMn]; exact hle, I.defs⟩
  · refine ⟨by simp, Ext.refl _, fun _ _ => rfl, ?_, ?_, ?_, rfl, ?_⟩
    · intro i d hd _ k h1 h2
      obtain ⟨ok, h3, h4⟩ := G.ch.at i d hd
      exact hf' k (by omega) (by omega)
    · rw [foldT_none ds 0 T0 fun m _ => hL m]; exact hT
    · rw [foldG_none ds 0 H fun m _ => hL m]; exact R.heap_eq rfl
    · intro i d hd hi
      rw [hL i] at hi; cases hi
  · unfold unl
    refine Nat.le_trans List.countP_le_length ?_
    rw [List.length_range]
    exact Nat.le_refl _
end
/-- No function is told apart. -/
def noOv : OvF := fun _ _ => none
theorem noOv_ok {P : Program} {E : Env} {w0 : World} : CallOk P E w0 (ovCall noOv) :=
  ⟨fun f args M v M' _ h => by simp [ovCall, noOv] at h, fun f args M H v M' H' h => by simp [ovCall, noOv] at h⟩
/-- CALLS, WHOLE: what the abstract machine tells of a call, the model does. -/
theorem callFA_ok {P : Program} {E : Env} {w0 : World} (hm : P.follows .mixedOrders = true) {ov : OvF} (hov : CallOk P E w0 (ovCall ov)) (n : Nat) : CallOk P E w0 (callFA P E ov n) :=
  callFA_sound (fun _ hc => draw_sound hm hc) hov n
end Go.Am
end

section
namespace Go.Am
open Go.ChangeShapes Go.WideShapes Go.ChangeAt Go.RowKit
/-- What was there is as it was. -/
def Kept (W w : World) : Prop := w.os = W.os ∧ w.output = W.output ∧ ∀ b, b < W.heap.size → w.heap[b]? = W.heap[b]?
theorem Kept.but {W w : World} (h : Kept W w) (may : MemPlace → Prop) : W.keptBut w may := by
  refine ⟨h.1, h.2.1, fun i hi => ?_⟩
  rw [h.2.2 i hi]
  cases e : W.heap[i]? with
  | none => simp
  | some o => cases o <;> simp
theorem Kept.frozen {W w : World} (h : Kept W w) (a : Addr) (ha : a.block < W.heap.size) : w.frozen? a = W.frozen? a := by
  unfold World.frozen?
  rw [h.2.2 a.block ha]
theorem Wf.empty : Wf AHeap.empty := by
  refine ⟨fun k _ => ?_, fun k o e => ?_⟩
  · simp [AHeap.empty, AHeap.get, Trie.get]
  · simp [AHeap.empty, AHeap.get, Trie.get] at e
theorem Rep.start (E : Env) (W : World) (hE : ∀ b cs, E b = some cs → b < W.heap.size ∧ ∃ arr el fr, W.heap[b]? = some (.cells arr el fr) ∧ relL (fun _ => none) cs arr.toList) : Rep E W AHeap.empty W (fun _ => none) := by
  have hg : ∀ k o, AHeap.empty.get k = some o → False := fun k o e => by simp [AHeap.empty, AHeap.get, Trie.get] at e
  exact ⟨Nat.le_refl _, fun _ _ => rfl, hE, ⟨rfl, rfl⟩, fun k o e => (hg k o e).elim, fun k _ o _ _ _ e => (hg k o e).elim, fun k o e => (hg k o e).elim, fun k _ o _ _ _ e => (hg k o e).elim⟩
/-- A CALL: what the abstract machine tells of it from a reading of the caller's blocks. -/
theorem calls_of_run {P : Program} (hm : P.follows .mixedOrders = true) {E : Env} {ov : OvF} {n : Nat} {f : FuncId} {args : List AV} {r : AV} {H' : AHeap} (h : callFA P E ov n f args AHeap.empty = some (r, H')) {W : World} (hov : CallOk P E W (ovCall ov)) {vargs : Array Value}
    (hE : ∀ b cs, E b = some cs → b < W.heap.size ∧ ∃ arr el fr, W.heap[b]? = some (.cells arr el fr) ∧ relL (fun _ => none) cs arr.toList) (hargs : relL (fun _ => none) args vargs.toList) :
    Calls P f vargs W fun e w => ∃ u ρ, e = .returned u ∧ rel ρ r u ∧ W.heap.size ≤ w.heap.size ∧ Kept W w := by
  have hu : Und AHeap.empty AHeap.empty H'.next := ⟨Wf.empty, Sub.refl _, fun k _ _ => by simp [AHeap.empty, AHeap.get, Trie.get]⟩
  refine Calls.mono ((callFA_ok (E := E) (w0 := W) hm hov n).2 _ _ _ _ _ _ _ h hu h W (fun _ => none) vargs (Rep.start E W hE) hargs (fun _ _ _ => rfl)) ?_
  rintro e w ⟨u, ρ, rfl, _, _, g3, g4⟩
  exact ⟨u, ρ, rfl, g3, g4.size, g4.side.1, g4.side.2, g4.old⟩
variable {P : Program} {H : Type} {enc : TypeId × Value → H}
/-- A result that holds no place, and arguments that read as they did: the row's promise. -/
theorem post_of_kept {f : Func} {s : ChangeSpec} {apart fresh handsOn again : Bool} {W W' : World} {args : Array Value} {v : Value} {ds gs : List (DataW H)} {before pa pv : List MemPlace}
    (hW : DataW.Whole enc P f.params.toList s.vars apart W args.toList ds gs before)
    (hres : ∀ (b : Nat) (sp : Nat → Bool) (hd : Bool), DataW.TrodAll enc P W' b sp hd f.resultTypes.toList (v.resultList f.resultTypes.size) (s.fn H (ds ++ gs)).results [])
    (hargs : ∀ sp : Nat → Bool, (∀ p ∈ before, sp p.block = true) → DataW.TrodAll enc P W' 0 sp true f.params.toList args.toList (s.fn H (ds ++ gs)).args pa)
    (hvars : ∀ sp : Nat → Bool, (∀ p ∈ before, sp p.block = true) → DataW.TrodVars enc P W' sp s.vars (s.fn H (ds ++ gs)).vars pv)
    (hps : before = pa ++ pv) (hk : Kept W W')
    (hok : ∀ (j : Nat) (t : TypeId) (r : Value), f.resultTypes[j]? = some t → (v.resultList f.resultTypes.size)[j]? = some r → Value.okWide P W' .any 0 t r) :
    s.post enc P f apart fresh handsOn again W args v W' := by
  have hlt : ∀ p ∈ before, p.block < W.heap.size := fun p hp => hW.lt p hp
  have hold : ∀ p ∈ before, (fun b => decide (b < W.heap.size)) p.block = true := fun p hp => by simpa using hlt p hp
  subst hps
  have hW0 := hW
  obtain ⟨_, _, _, _, _, hz, hn⟩ := hW0
  refine ⟨ds, gs, pa ++ pv, [], pa, pv, hW, hres _ _ _, hargs _ hold, hvars _ hold, hk.but _, fun _ => ⟨hok, _, _, ([] ++ pa) ++ pv, ⟨[] ++ pa, pv, trodAll_append (hargs _ fun _ _ => rfl) (hres _ _ _), hvars _ fun _ _ => rfl, rfl, ?_, ?_⟩, ?_⟩⟩
  · intro b off hp
    have hp' : MemPlace.cell b off ∈ pa ++ pv := by simpa using hp
    rw [hk.frozen _ (hlt _ hp')]
    exact hz b off hp'
  · intro ha
    simpa using hn ha
  · intro p hp _
    simpa using hp
end Go.Am
end
