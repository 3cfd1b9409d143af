/-
  Texts Am29, as far as they are used.
-/
import Derived.Test.YtchnpgddpaonhaaUah
section
namespace Go.Am
set_option linter.unusedVariables false
section
variable (P : Program) (E : Env) (w0 : World)
def FreshA (ρ : LMap) (H : AHeap) : Prop := ∀ k, H.next ≤ k → ρ k = none
def Nx (ρ ρ' : LMap) (H H' : AHeap) : Prop := Ext ρ ρ' ∧ H.next ≤ H'.next ∧ ∀ k, ¬ (H.next ≤ k ∧ k < H'.next) → ρ' k = ρ k
/-- A call of the model's: it returns, with a value and a heap of which Q tells. -/
def FnW (f : FuncId) (args : List AV) (H : AHeap) (Q : AV → AHeap → Prop) : Prop :=
  ∀ (w : World) (ρ : LMap) (vargs : Array Value), Rep E w0 H w ρ → FreshA ρ H → relL ρ args vargs.toList →
    Calls P f vargs w fun e w' => ∃ u ρ' v H', e = .returned u ∧ Q v H' ∧ Nx ρ ρ' H H' ∧ rel ρ' v u ∧ Rep E w0 H' w' ρ'
/-- Likewise, with just one value and one heap. -/
def FnD (f : FuncId) (args : List AV) (H : AHeap) (Q : AV → AHeap → Prop) : Prop :=
  ∃ v H', FnW P E w0 f args H (fun v' H'' => v' = v ∧ H'' = H') ∧ Q v H'
def resW (r : Option ARes) (Q : AV → AHeap → Prop) : Prop := match r with
  | some (.val v H') => Q v H'
  | some (.call f args H') => FnW P E w0 f args H' Q
  | none => False
def wantsA (g : AV) (want : Bool) : Option Bool := match g with
  | .bool b => some (b == want)
  | .opq _ => none
  | _ => some false
def guardW (r : Option Bool) (s : (AV → AHeap → Prop) → Prop) (H : AHeap) (Q : AV → AHeap → Prop) : Prop := match r with
  | some true => s Q
  | some false => Q undefA H
  | none => False
def StepW (ops : Array Oper) (T : List AV) (H : AHeap) (o : Oper) (Q : AV → AHeap → Prop) : Prop :=
  guardW (wantedA ops T o) (resW P E w0 (opA P E T H o)) H Q
def OpsW (ops : Array Oper) : List Oper → List AV → AHeap → (List AV → AHeap → Prop) → Prop
  | [], T, H, Q => Q T H
  | o :: l, T, H, Q => StepW P E w0 ops T H o fun v H' => OpsW ops l (putA T o.dst v) H' Q
def StA (H : AHeap) (ρ : LMap) (ds : List Deferred) (T' : List AV) (H' : AHeap) (a' : Act) (w' : World) : Prop :=
  ∃ ρ', Nx ρ ρ' H H' ∧ relL ρ' T' a'.tmps.toList ∧ Rep E w0 H' w' ρ' ∧ a'.defers = ds
/-- A piece of code: it ends, with a row and a heap of which Q tells. -/
def CodeW (c : Code) (T : List AV) (H : AHeap) (Q : AExit → List AV → AHeap → Prop) : Prop :=
  ∀ (w : World) (ρ : LMap) (a : Act) (R : Exit → Act → World → Prop), Rep E w0 H w ρ → FreshA ρ H → relL ρ T a.tmps.toList →
    (∀ ex T' H' a' w', Q ex T' H' → StA E w0 H ρ a.defers T' H' a' w' → R (exOf ex) a' w') → c.wp P R a w
end
section
variable {P : Program} {E : Env} {w0 : World}
theorem Nx.refl (ρ : LMap) (H : AHeap) : Nx ρ ρ H H := ⟨Ext.refl _, Nat.le_refl _, fun _ _ => rfl⟩
theorem Nx.trans {ρ ρ1 ρ2 : LMap} {H H1 H2 : AHeap} (h : Nx ρ ρ1 H H1) (h' : Nx ρ1 ρ2 H1 H2) : Nx ρ ρ2 H H2 := by
  obtain ⟨a, b, c⟩ := h
  obtain ⟨a', b', c'⟩ := h'
  exact ⟨a.trans a', by omega, fun k hk => by rw [c' k (by omega), c k (by omega)]⟩
theorem FreshA.step {ρ ρ' : LMap} {H H' : AHeap} (h : FreshA ρ H) (h' : Nx ρ ρ' H H') : FreshA ρ' H' := fun k hk => by
  obtain ⟨_, b, c⟩ := h'
  rw [c k (by omega), h k (by omega)]
theorem FreshA.fresh {ρ : LMap} {H H' : AHeap} (h : FreshA ρ H) : Fresh ρ H H' := fun k hk _ => h k hk
theorem StA.trans {H0 H1 H2 : AHeap} {ρ0 ρ1 : LMap} {ds : List Deferred} {T : List AV} {a : Act} {w : World} (h1 : Nx ρ0 ρ1 H0 H1) (h : StA E w0 H1 ρ1 ds T H2 a w) : StA E w0 H0 ρ0 ds T H2 a w := by
  obtain ⟨ρ, g1, g2, g3, g4⟩ := h
  exact ⟨ρ, h1.trans g1, g2, g3, g4⟩
theorem StA.fresh {H0 H : AHeap} {ρ0 : LMap} {ds : List Deferred} {T : List AV} {a : Act} {w : World} (h : StA E w0 H0 ρ0 ds T H a w) (hf : FreshA ρ0 H0) :
    ∃ ρ, Nx ρ0 ρ H0 H ∧ FreshA ρ H ∧ relL ρ T a.tmps.toList ∧ Rep E w0 H w ρ ∧ a.defers = ds := by
  obtain ⟨ρ, g1, g2, g3, g4⟩ := h
  exact ⟨ρ, g1, hf.step g1, g2, g3, g4⟩
theorem FnW.mono {f : FuncId} {args : List AV} {H : AHeap} {Q Q' : AV → AHeap → Prop} (h : FnW P E w0 f args H Q) (hq : ∀ v H', Q v H' → Q' v H') : FnW P E w0 f args H Q' := by
  intro w ρ vargs R hf hr
  refine Calls.mono (h w ρ vargs R hf hr) ?_
  rintro e w' ⟨u, ρ', v, H', h1, h2, h3⟩
  exact ⟨u, ρ', v, H', h1, hq _ _ h2, h3⟩
theorem FnD.toW {f : FuncId} {args : List AV} {H : AHeap} {Q : AV → AHeap → Prop} (h : FnD P E w0 f args H Q) : FnW P E w0 f args H Q := by
  obtain ⟨v, H', h1, h2⟩ := h
  exact h1.mono fun _ _ ⟨e1, e2⟩ => by subst e1 e2; exact h2
theorem FnD.mono {f : FuncId} {args : List AV} {H : AHeap} {Q Q' : AV → AHeap → Prop} (h : FnD P E w0 f args H Q) (hq : ∀ v H', Q v H' → Q' v H') : FnD P E w0 f args H Q' := by
  obtain ⟨v, H', h1, h2⟩ := h
  exact ⟨v, H', h1, hq _ _ h2⟩
theorem CodeW.mono {c : Code} {T : List AV} {H : AHeap} {Q Q' : AExit → List AV → AHeap → Prop} (h : CodeW P E w0 c T H Q) (hq : ∀ ex T' H', Q ex T' H' → Q' ex T' H') : CodeW P E w0 c T H Q' :=
  fun w ρ a R hR hf hT hk => h w ρ a R hR hf hT fun ex T' H' a' w' hQ => hk ex T' H' a' w' (hq _ _ _ hQ)
theorem resW_mono {r : Option ARes} {Q Q' : AV → AHeap → Prop} (h : resW P E w0 r Q) (hq : ∀ v H', Q v H' → Q' v H') : resW P E w0 r Q' := by
  unfold resW at *
  split
  · exact hq _ _ h
  · exact FnW.mono h hq
  · exact h
theorem StepW_mono {ops : Array Oper} {T : List AV} {H : AHeap} {o : Oper} {Q Q' : AV → AHeap → Prop} (h : StepW P E w0 ops T H o Q) (hq : ∀ v H', Q v H' → Q' v H') : StepW P E w0 ops T H o Q' := by
  unfold StepW guardW at *
  split <;> rename_i e <;> rw [e] at h
  · exact resW_mono h hq
  · exact hq _ _ h
  · exact h
theorem stepW_sound {ops : Array Oper} {T : List AV} {H : AHeap} {o : Oper} {Q : AV → AHeap → Prop} (h : StepW P E w0 ops T H o Q) {i : Nat} (ho : ops[i]? = some o)
    {w : World} {ρ : LMap} (R : Rep E w0 H w ρ) {a : Act} (hT : relL ρ T a.tmps.toList) (hf : FreshA ρ H) {K : Act → World → Prop} {S : Exit → Act → World → Prop}
    (hK : ∀ v H' ρ' vv w', Q v H' → Nx ρ ρ' H H' → rel ρ' v vv → Rep E w0 H' w' ρ' → K (a.put o.dst vv) w') : wpOp P ops S i K a w := by
  unfold wpOp
  rw [ho]
  simp only
  unfold StepW guardW at h
  split at h
  · rename_i hw
    rw [wanted_rel hw hT, if_pos rfl]
    left
    unfold Oper.wp
    unfold resW at h
    split at h
    · rename_i v1 H1 h1
      obtain ⟨nx, vv, w', ρ', g1, g2, g3, g4, g5, g6, g7⟩ := opA_sound R h1 (eval_rel hT) hf.fresh
      rw [g1]
      rcases g2 with rfl | ⟨rfl, rfl⟩
      · exact hK _ _ ρ' vv w' h ⟨g3, g7, g4⟩ g5 g6
      · exact hK _ _ ρ' undef w' h ⟨g3, g7, g4⟩ g5 g6
    · rename_i f args H1 h1
      obtain ⟨rfl, vargs, g1, g2⟩ := opA_sound R h1 (eval_rel hT)
      rw [g1]
      refine Calls.mono (h w ρ vargs R hf g2) ?_
      rintro e w' ⟨u, ρ', v, H', rfl, k1, k2, k3, k4⟩
      exact hK _ _ ρ' u w' k1 k2 k3 k4
    · cases h
  · rename_i hw
    rw [wanted_rel hw hT, if_neg Bool.false_ne_true]
    exact hK _ _ ρ undef w h (Nx.refl _ _) rel_undef R
  · cases h
theorem opsW_sound {ops : Array Oper} {S : Exit → Act → World → Prop} : ∀ (l : List Oper) (i : Nat) (T : List AV) (H : AHeap) (Q : List AV → AHeap → Prop), OpsW P E w0 ops l T H Q → ops.toList.drop i = l →
    ∀ (w : World) (ρ : LMap) (a : Act), Rep E w0 H w ρ → relL ρ T a.tmps.toList → FreshA ρ H → (∀ T' H' a' w', Q T' H' → StA E w0 H ρ a.defers T' H' a' w' → S .normal a' w') →
      wpOps P ops S (List.range' i l.length) a w
  | [], i, T, H, Q, h, _, w, ρ, a, R, hT, hf, hQ => by
    simp only [List.length_nil, List.range'_zero, wpOps]
    exact hQ T H a w h ⟨ρ, Nx.refl _ _, hT, R, rfl⟩
  | o :: l, i, T, H, Q, h, hl, w, ρ, a, R, hT, hf, hQ => by
    have hdr : ops.toList.drop (i + 1) = l := by
      have := congrArg List.tail hl
      rw [List.tail_drop] at this
      exact this
    have ho : ops[i]? = some o := by
      have : (ops.toList.drop i)[0]? = some o := by rw [hl]; rfl
      rw [List.getElem?_drop] at this
      simpa using this
    have hlen : (List.range' i (o :: l).length) = i :: List.range' (i + 1) l.length := by
      simp [List.range'_succ]
    rw [hlen, wpOps_cons]
    refine stepW_sound h ho R hT hf ?_
    intro v H1 ρ' vv w' g0 g1 g2 g3
    refine opsW_sound l (i + 1) _ _ _ g0 hdr w' ρ' _ g3 (put_rel (relL_ext g1.1 _ _ hT) g2) (hf.step g1) ?_
    intro T' H' a' w'' hq hst
    rw [put_defers] at hst
    exact hQ T' H' a' w'' hq (StA.trans g1 hst)
theorem codeW_skip {T : List AV} {H : AHeap} {Q : AExit → List AV → AHeap → Prop} (h : Q .normal T H) : CodeW P E w0 .skip T H Q :=
  fun w ρ a R hR hf hT hk => wp_skip (hk _ _ _ _ _ h ⟨ρ, Nx.refl _ _, hT, hR, rfl⟩)
theorem codeW_label {l : Nat} {T : List AV} {H : AHeap} {Q : AExit → List AV → AHeap → Prop} (h : Q .normal T H) : CodeW P E w0 (.label l) T H Q :=
  fun w ρ a R hR hf hT hk => wp_label (hk _ _ _ _ _ h ⟨ρ, Nx.refl _ _, hT, hR, rfl⟩)
theorem codeW_ret {T : List AV} {H : AHeap} {Q : AExit → List AV → AHeap → Prop} (h : Q .ret T H) : CodeW P E w0 .ret T H Q :=
  fun w ρ a R hR hf hT hk => wp_ret (hk _ _ _ _ _ h ⟨ρ, Nx.refl _ _, hT, hR, rfl⟩)
theorem codeW_exit {id : Nat} {T : List AV} {H : AHeap} {Q : AExit → List AV → AHeap → Prop} (h : Q (.exit id) T H) : CodeW P E w0 (.exit id) T H Q :=
  fun w ρ a R hR hf hT hk => wp_exit (hk _ _ _ _ _ h ⟨ρ, Nx.refl _ _, hT, hR, rfl⟩)
theorem codeW_region {id : Nat} {ops : Array Oper} {T : List AV} {H : AHeap} {Q : AExit → List AV → AHeap → Prop} (h : OpsW P E w0 ops ops.toList T H (Q .normal)) : CodeW P E w0 (.region id ops false) T H Q := by
  intro w ρ a R hR hf hT hk
  refine wp_region ?_
  have := opsW_sound (S := R) ops.toList 0 T H _ h rfl w ρ a hR hT hf fun T' H' a' w' hq hst => hk _ _ _ _ _ hq hst
  rwa [List.range_eq_range', ← Array.length_toList]
theorem codeW_seq {x y : Code} {T : List AV} {H : AHeap} {Q : AExit → List AV → AHeap → Prop}
    (h : CodeW P E w0 x T H fun ex T' H' => match ex with | .normal => CodeW P E w0 y T' H' Q | e => Q e T' H') : CodeW P E w0 (.seq x y) T H Q := by
  intro w ρ a R hR hf hT hk
  refine wp_seq (h w ρ a _ hR hf hT ?_)
  intro ex T' H' a' w' hq hst
  cases ex with
  | normal =>
    obtain ⟨ρ', g1, g2, g3, g4, g5⟩ := hst.fresh hf
    refine hq w' ρ' a' R g4 g2 g3 ?_
    intro ex T2 H2 a2 w2 hq2 hst2
    rw [g5] at hst2
    exact hk _ _ _ _ _ hq2 (StA.trans g1 hst2)
  | exit id => exact hk _ _ _ _ _ hq hst
  | ret => exact hk _ _ _ _ _ hq hst
def condW (c : AV) (x y : Prop) : Prop := match c with
  | .bool true => x
  | .bool false => y
  | _ => False
theorem codeW_cond {c : Operand} {x y : Code} {T : List AV} {H : AHeap} {Q : AExit → List AV → AHeap → Prop}
    (h : condW (aEval T c) (CodeW P E w0 x T H Q) (CodeW P E w0 y T H Q)) : CodeW P E w0 (.cond c x y) T H Q := by
  intro w ρ a R hR hf hT hk
  have hr := eval_rel hT c
  unfold condW at h
  split at h
  · rename_i e; rw [e] at hr; simp only [rel] at hr
    exact wp_cond hr (h w ρ a R hR hf hT hk)
  · rename_i e; rw [e] at hr; simp only [rel] at hr
    exact wp_cond hr (h w ρ a R hR hf hT hk)
  · cases h
def blockQ (id : Nat) (Q : AExit → List AV → AHeap → Prop) : AExit → List AV → AHeap → Prop
  | .exit id', T, H => if id' = id then Q .normal T H else Q (.exit id') T H
  | e, T, H => Q e T H
theorem codeW_block {id : Nat} {x : Code} {T : List AV} {H : AHeap} {Q : AExit → List AV → AHeap → Prop} (h : CodeW P E w0 x T H (blockQ id Q)) : CodeW P E w0 (.block id x) T H Q := by
  intro w ρ a R hR hf hT hk
  refine wp_block (h w ρ a _ hR hf hT ?_)
  intro ex T' H' a' w' hq hst
  cases ex with
  | normal => exact hk _ _ _ _ _ hq hst
  | ret => exact hk _ _ _ _ _ hq hst
  | exit id' =>
    simp only [blockQ] at hq
    simp only [exOf, Exit.inBlock]
    split
    · rename_i e; rw [if_pos e] at hq; exact hk .normal _ _ _ _ hq hst
    · rename_i e; rw [if_neg e] at hq; exact hk (.exit id') _ _ _ _ hq hst
/-- LOOPS: an invariant with a number that falls. -/
theorem codeW_loop {c : Code} {Q : AExit → List AV → AHeap → Prop} {I : Nat → List AV → AHeap → Prop}
    (step : ∀ n T H, I n T H → CodeW P E w0 c T H fun ex T' H' => match ex with | .normal => ∃ m, m < n ∧ I m T' H' | e => Q e T' H')
    {n : Nat} {T : List AV} {H : AHeap} (h : I n T H) : CodeW P E w0 (.loop c) T H Q := by
  have main : ∀ (k n : Nat) (T : List AV) (H : AHeap), n < k → I n T H → ∀ (w : World) (ρ : LMap) (a : Act) (R : Exit → Act → World → Prop), Rep E w0 H w ρ → FreshA ρ H → relL ρ T a.tmps.toList →
      (∀ ex T' H' a' w', Q ex T' H' → StA E w0 H ρ a.defers T' H' a' w' → R (exOf ex) a' w') → Code.rounds P c R k a w := by
    intro k
    induction k with
    | zero => intro n T H hn; omega
    | succ k ih =>
      intro n T H hn hI w ρ a R hR hf hT hk
      rw [rounds_succ]
      refine step n T H hI w ρ a _ hR hf hT ?_
      intro ex T' H' a' w' hq hst
      cases ex with
      | normal =>
        obtain ⟨m, hm, hI'⟩ := hq
        obtain ⟨ρ', g1, g2, g3, g4, g5⟩ := hst.fresh hf
        refine ih m T' H' (by omega) hI' w' ρ' a' R g4 g2 g3 ?_
        intro ex T2 H2 a2 w2 hq2 hst2
        rw [g5] at hst2
        exact hk _ _ _ _ _ hq2 (StA.trans g1 hst2)
      | exit id => exact hk _ _ _ _ _ hq hst
      | ret => exact hk _ _ _ _ _ hq hst
  intro w ρ a R hR hf hT hk
  exact wp_loop_rounds (n + 1) (main (n + 1) n T H (by omega) h w ρ a R hR hf hT hk)
def optW {α : Type} (x : Option α) (Q : α → Prop) : Prop := match x with
  | some v => Q v
  | none => False
/-- A function's results. -/
def resultW (P : Program) (E : Env) (H : AHeap) (T : List AV) : List ResultVar → (List AV → Prop) → Prop
  | [], K => K []
  | .tmp t :: l, K => resultW P E H T l fun vs => K (T.getD t undefA :: vs)
  | .cell a t :: l, K => match T.getD a undefA with
    | .ptr o i => optW (loadVarA P E H t o i) fun v => resultW P E H T l fun vs => K (v :: vs)
    | _ => False
def packA : List AV → AV
  | [v] => v
  | vs => .tup vs
theorem resultW_mapM {H : AHeap} {T : List AV} : ∀ {l : List ResultVar} {K : List AV → Prop}, resultW P E H T l K → ∃ vs, K vs ∧ l.mapM (fun
    | .tmp t => some (T.getD t undefA)
    | .cell a t => match T.getD a undefA with
      | .ptr o i => loadVarA P E H t o i
      | _ => none : ResultVar → Option AV) = some vs
  | [], K, h => ⟨[], h, rfl⟩
  | .tmp t :: l, K, h => by
    obtain ⟨vs, h1, h2⟩ := resultW_mapM (l := l) h
    exact ⟨_, h1, by simp only [List.mapM_cons, h2]; rfl⟩
  | .cell a t :: l, K, h => by
    simp only [resultW] at h
    split at h
    · rename_i o i e
      unfold optW at h
      split at h
      · rename_i v hv
        obtain ⟨vs, h1, h2⟩ := resultW_mapM (l := l) h
        exact ⟨_, h1, by simp only [List.mapM_cons, h2, e, hv]; rfl⟩
      · cases h
    · cases h
theorem resultW_ok {H : AHeap} {T : List AV} {fn : Func} {K : List AV → Prop} (h : resultW P E H T fn.results.toList K) : ∃ vs, K vs ∧ resultsA P E H fn T = some (packA vs) := by
  obtain ⟨vs, h1, h2⟩ := resultW_mapM h
  refine ⟨vs, h1, ?_⟩
  unfold resultsA
  erw [h2]
  simp only [Option.bind_eq_bind, Option.bind_some]
  unfold packA
  split <;> rename_i h3 <;> split <;> rename_i h4 <;> simp_all
/-- What a function's body leaves. -/
def retQ (P : Program) (E : Env) (fn : Func) (Q : AV → AHeap → Prop) : AExit → List AV → AHeap → Prop
  | .exit _, _, _ => False
  | _, T, H => resultW P E H T fn.results.toList fun vs => Q (packA vs) H
/-- A CALL, by its body. -/
theorem fnW_of_code {f : FuncId} {fn : Func} {c : Code} (hfn : P.funcs[f]? = some fn) (hb : fn.body = some c) {args : List AV} {H : AHeap} {Q : AV → AHeap → Prop}
    (h : CodeW P E w0 c (args ++ List.replicate (fn.ntmps - args.length) undefA) H (retQ P E fn Q)) : FnW P E w0 f args H Q := by
  intro w ρ vargs R hf hr
  refine calls_of_wp hfn hb ?_
  refine h w ρ { tmps := vargs ++ Array.replicate (fn.ntmps - vargs.size) undef, defers := [] } _ R hf ?_ ?_
  · have hl := relL_length hr
    simp only [Array.length_toList] at hl
    rw [Array.toList_append, Array.toList_replicate, ← hl]
    refine relL_append hr ?_
    generalize fn.ntmps - args.length = m
    induction m with
    | zero => exact relL_nil.2 rfl
    | succ m ihm => exact relL_cons.2 ⟨rel_undef, ihm⟩
  · intro ex T' H' a' w' hq ⟨ρ', g1, g2, g3, g4⟩
    have main : (ex = .normal ∨ ex = .ret) → bodyPost P fn (fun e w' => ∃ u ρ' v H', e = .returned u ∧ Q v H' ∧ Nx ρ ρ' H H' ∧ rel ρ' v u ∧ Rep E w0 H' w' ρ') (exOf ex) a' w' := by
      intro hex
      have hq' : resultW P E H' T' fn.results.toList fun vs => Q (packA vs) H' := by rcases hex with rfl | rfl <;> exact hq
      obtain ⟨vs, h1, h2⟩ := resultW_ok hq'
      obtain ⟨u, k1, k2⟩ := resultsA_sound (P := P) g3 h2 g2
      have : bodyPost P fn (fun e w' => ∃ u ρ' v H', e = .returned u ∧ Q v H' ∧ Nx ρ ρ' H H' ∧ rel ρ' v u ∧ Rep E w0 H' w' ρ') .normal a' w' :=
        ⟨g4, u, k1, u, ρ', _, H', rfl, h1, g1, k2, g3⟩
      rcases hex with rfl | rfl
      · exact this
      · exact this
    cases ex with
    | normal => exact main (.inl rfl)
    | ret => exact main (.inr rfl)
    | exit id => exact hq.elim
/-- FROM THE RULES TO A CALL OF THE MODEL'S. -/
theorem calls_of_fnW {f : FuncId} {args : List AV} {Q : AV → AHeap → Prop} {W : World} (h : FnW P E W f args AHeap.empty Q) {vargs : Array Value}
    (hE : ∀ b cs, E b = some cs → b < W.heap.size ∧ ∃ arr el fr, W.heap[b]? = some (.cells arr el fr) ∧ relL (fun _ => none) cs arr.toList) (hargs : relL (fun _ => none) args vargs.toList) :
    Calls P f vargs W fun e w => ∃ u ρ v H', e = .returned u ∧ Q v H' ∧ rel ρ v u ∧ W.heap.size ≤ w.heap.size ∧ Kept W w := by
  refine Calls.mono (h W (fun _ => none) vargs (Rep.start E W hE) (fun _ _ => rfl) hargs) ?_
  rintro e w ⟨u, ρ, v, H', rfl, g1, _, g3, g4⟩
  exact ⟨u, ρ, v, H', rfl, g1, g3, g4.size, g4.side.1, g4.side.2, g4.old⟩
theorem calls_true_W {f : FuncId} {args : List AV} {W : World} (h : FnW P E W f args AHeap.empty fun v _ => v = .bool true) {vargs : Array Value}
    (hE : ∀ b cs, E b = some cs → b < W.heap.size ∧ ∃ arr el fr, W.heap[b]? = some (.cells arr el fr) ∧ relL (fun _ => none) cs arr.toList) (hargs : relL (fun _ => none) args vargs.toList) :
    Calls P f vargs W fun e w => e = .returned (.bool true) ∧ Kept W w := by
  refine Calls.mono (calls_of_fnW h hE hargs) ?_
  rintro e w ⟨u, ρ, v, H', rfl, rfl, hr, _, hk⟩
  simp only [rel] at hr
  exact ⟨by rw [hr], hk⟩
end
end Go.Am
end
