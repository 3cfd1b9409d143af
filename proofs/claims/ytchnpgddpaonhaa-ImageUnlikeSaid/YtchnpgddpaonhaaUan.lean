/-
  Texts Am35, as far as they are used.
-/
import Derived.Test.YtchnpgddpaonhaaUam
import Derived.Test.YtchnpgddpaonhaaUak
section
namespace Go.Am
set_option linter.unusedVariables false
section
variable (P : Program) (E : Env) (w0 : World)
/-- A heap and a row that some world has. -/
def Rb (H : AHeap) (T : List AV) : Prop := ∃ (w : World) (ρ : LMap) (vs : Array Value), Rep E w0 H w ρ ∧ FreshA ρ H ∧ relL ρ T vs.toList
/-- A call: it returns, with one value and one heap, of which Q tells. -/
def FnX (f : FuncId) (args : List AV) (H : AHeap) (Q : AV → AHeap → Prop) : Prop :=
  Rb E w0 H args → ∃ v H', FnW P E w0 f args H (fun v' H'' => v' = v ∧ H'' = H') ∧ Q v H'
/-- A piece of code: it ends, with one row and one heap, of which Q tells. -/
def CodeX (c : Code) (T : List AV) (H : AHeap) (Q : AExit → List AV → AHeap → Prop) : Prop :=
  Rb E w0 H T → ∃ ex T' H', CodeW P E w0 c T H (fun e1 T1 H1 => e1 = ex ∧ T1 = T' ∧ H1 = H') ∧ Q ex T' H'
def OpsX (ops : Array Oper) : List Oper → List AV → AHeap → (List AV → AHeap → Prop) → Prop
  | [], T, H, Q => forceL T fun T => Q T H
  | o :: l, T, H, Q => forceL T fun T => match aliasOf o with
   | some x => aliasK T x fun e => OpsX ops l (putA T o.dst e) H Q
   | none => match kindOf P o with
    | 0 | 1 => optW (valV P E ops T H o) fun v => OpsX ops l (putA T o.dst v) H Q
    | _ => StepV P E (FnX P E w0) ops T H o fun v H' => OpsX ops l (putA T o.dst v) H' Q
def DrawX (ops : Array Oper) : List Oper → List Done → List AV → AHeap → List AHeap → (List AV → AHeap → Prop) → Prop
  | [], _, T, H, _, Q => forceL T fun T => Q T H
  | o :: l, ds, T, H, older, Q => match ancOf ds o.after.toList 0 with
    | none => False
    | some anc => if allI (fun j e => anc.testBit j || o.apart ops e.o) 0 ds then forceL T fun T =>
        match aliasOf o with
        | some x => aliasK T x fun v => DrawX ops l (ds ++ [⟨o, anc, T, v, older.length, 0, false, []⟩]) (putA T o.dst v) H older Q
        | none => match kindOf P o with
        | 0 => optW (valV P E ops T H o) fun v => DrawX ops l (ds ++ [⟨o, anc, T, v, older.length, 0, false, []⟩]) (putA T o.dst v) H older Q
        | 1 => optW (valV P E ops T H o) fun v => sameV P E ops T o v (older.take (older.length - loOf anc 0 ds 0)) ∧ DrawX ops l (ds ++ [⟨o, anc, T, v, older.length, 1, false, []⟩]) (putA T o.dst v) H older Q
        | _ => if allI (fun j e => !e.wr || anc.testBit j) 0 ds then
            StepV P E (FnX P E w0) ops T H o fun v H' => againV P E ops H' anc 0 ds ∧ DrawX ops l (ds ++ [⟨o, anc, T, v, older.length, 2, true, []⟩]) (putA T o.dst v) H' (H :: older) Q
          else False
      else False
end
section
variable {P : Program} {E : Env} {w0 : World}
theorem Rb.put {H : AHeap} {T : List AV} {ρ : LMap} {w : World} (R : Rep E w0 H w ρ) (hf : FreshA ρ H) {a : Act} (hT : relL ρ T a.tmps.toList) : Rb E w0 H T := ⟨w, ρ, a.tmps, R, hf, hT⟩
theorem Rb.act {H : AHeap} {T : List AV} (h : Rb E w0 H T) : ∃ (w : World) (ρ : LMap) (a : Act), Rep E w0 H w ρ ∧ FreshA ρ H ∧ relL ρ T a.tmps.toList := by
  obtain ⟨w, ρ, vs, R, hf, hT⟩ := h
  exact ⟨w, ρ, { tmps := vs, defers := [] }, R, hf, hT⟩
theorem Rb.fine {H : AHeap} {T : List AV} (h : Rb E w0 H T) : Fine H := by
  obtain ⟨w, ρ, vs, R, hf, hT⟩ := h
  exact R.fine hf
theorem FnW.sat {f : FuncId} {args : List AV} {H : AHeap} {Q : AV → AHeap → Prop} (h : FnW P E w0 f args H Q) {w : World} {ρ : LMap} {vargs : Array Value} (R : Rep E w0 H w ρ) (hf : FreshA ρ H) (hr : relL ρ args vargs.toList) :
    ∃ u ρ' v H' w', Q v H' ∧ Nx ρ ρ' H H' ∧ rel ρ' v u ∧ Rep E w0 H' w' ρ' := by
  obtain ⟨e, w', fr, ⟨u, ρ', v, H', _, h1, h2, h3, h4⟩, _⟩ := h w ρ vargs R hf hr []
  exact ⟨u, ρ', v, H', w', h1, h2, h3, h4⟩
theorem CodeW.sat {c : Code} {T : List AV} {H : AHeap} {Q : AExit → List AV → AHeap → Prop} (h : CodeW P E w0 c T H Q) (hr : Rb E w0 H T) : ∃ ex T' H', Q ex T' H' ∧ Rb E w0 H' T' := by
  obtain ⟨w, ρ, a, R, hf, hT⟩ := hr.act
  obtain ⟨e, a', w', h1, _⟩ := h w ρ a (fun _ _ _ => ∃ ex T' H', Q ex T' H' ∧ Rb E w0 H' T') R hf hT (fun ex T' H' a' w' hq hst => by
    obtain ⟨ρ', g1, g2, g3, g4, _⟩ := hst.fresh hf
    exact ⟨ex, T', H', hq, Rb.put g4 g2 g3⟩) (Frame.enter P 0 #[] .normal) [] []
  exact h1
theorem FnX.mono {f : FuncId} {args : List AV} {H : AHeap} {Q Q' : AV → AHeap → Prop} (h : FnX P E w0 f args H Q) (hq : ∀ v H', Q v H' → Q' v H') : FnX P E w0 f args H Q' := fun hr => by
  obtain ⟨v, H', h1, h2⟩ := h hr
  exact ⟨v, H', h1, hq _ _ h2⟩
/-- A contract that is used. -/
theorem FnX.use {f : FuncId} {args : List AV} {H : AHeap} {Q K : AV → AHeap → Prop} (h : FnX P E w0 f args H Q) (hk : ∀ v H', Q v H' → Fine H' → H.next ≤ H'.next → K v H') : FnX P E w0 f args H K := fun hr => by
  obtain ⟨v, H', h1, h2⟩ := h hr
  obtain ⟨w, ρ, vs, R, hf, hT⟩ := hr
  obtain ⟨u, ρ', v', H'', w', ⟨rfl, rfl⟩, g1, g2, g3⟩ := h1.sat R hf hT
  exact ⟨v', H'', h1, hk _ _ h2 (g3.fine (hf.step g1)) g1.2.1⟩
theorem CodeX.mono {c : Code} {T : List AV} {H : AHeap} {Q Q' : AExit → List AV → AHeap → Prop} (h : CodeX P E w0 c T H Q) (hq : ∀ ex T' H', Q ex T' H' → Q' ex T' H') : CodeX P E w0 c T H Q' := fun hr => by
  obtain ⟨ex, T', H', h1, h2⟩ := h hr
  exact ⟨ex, T', H', h1, hq _ _ _ h2⟩
theorem FnX.toW {f : FuncId} {args : List AV} {H : AHeap} {Q : AV → AHeap → Prop} (h : FnX P E w0 f args H Q) : FnW P E w0 f args H Q := by
  intro w ρ vargs R hf hr
  obtain ⟨v, H', h1, h2⟩ := h ⟨w, ρ, vargs, R, hf, hr⟩
  refine (h1.mono fun v1 H1 e => ?_) w ρ vargs R hf hr
  obtain ⟨rfl, rfl⟩ := e
  exact h2
theorem fnX_of_W {f : FuncId} {args : List AV} {H H' : AHeap} {v : AV} (h : FnW P E w0 f args H fun v' H'' => v' = v ∧ H'' = H') : FnX P E w0 f args H fun v' H'' => v' = v ∧ H'' = H' := fun _ => ⟨v, H', h, rfl, rfl⟩
/-- A step, with one value and one heap. -/
theorem stepX_D {ops : Array Oper} {T : List AV} {H : AHeap} {o : Oper} {K : AV → AHeap → Prop} (h : StepV P E (FnX P E w0) ops T H o K) (hr : Rb E w0 H T) :
    StepD P E w0 ops T H o fun v H' => K v H' ∧ Rb E w0 H' (putA T o.dst v) := by
  obtain ⟨w, ρ, a, R, hf, hT⟩ := hr.act
  unfold StepV at h
  unfold StepD
  generalize wantedA ops T o = g at h ⊢
  cases g with
  | none => exact h
  | some b => cases b with
    | false => exact ⟨h, Rb.put R hf (put_rel (dst := o.dst) hT rel_undef)⟩
    | true =>
      have h' : resF (FnX P E w0) (opA P E T H o) K := opW_ok h
      clear h
      simp only [guardW]
      unfold resD
      unfold resF at h'
      split at h'
      · rename_i v H1 h1
        rw [h1]
        obtain ⟨nx, vv, w', ρ', g1, g2, g3, g4, g5, g6, g7⟩ := opA_sound R h1 (eval_rel hT) hf.fresh
        exact ⟨h', Rb.put g6 (hf.step ⟨g3, g7, g4⟩) (put_rel (dst := o.dst) (relL_ext g3 _ _ hT) g5)⟩
      · rename_i f args H1 h1
        rw [h1]
        obtain ⟨rfl, vargs, g1, g2⟩ := opA_sound R h1 (eval_rel hT)
        obtain ⟨v, H', h2, h3⟩ := h' ⟨w, ρ, vargs, R, hf, g2⟩
        refine ⟨v, H', h2, h3, ?_⟩
        obtain ⟨u, ρ', v', H'', w', ⟨rfl, rfl⟩, k1, k2, k3⟩ := h2.sat R hf g2
        exact Rb.put k3 (hf.step k1) (put_rel (dst := o.dst) (relL_ext k1.1 _ _ hT) k2)
      · exact h'.elim
theorem stepD_one {ops : Array Oper} {T : List AV} {H : AHeap} {o : Oper} {K : AV → AHeap → Prop} (h : StepD P E w0 ops T H o K) : ∃ v H', K v H' ∧ StepD P E w0 ops T H o fun v' H'' => v' = v ∧ H'' = H' := by
  unfold StepD guardW at h ⊢
  split at h
  · rename_i e
    unfold resD at h ⊢
    split at h
    · exact ⟨_, _, h, rfl, rfl⟩
    · obtain ⟨v, H', h2, h3⟩ := h
      exact ⟨v, H', h3, v, H', h2, rfl, rfl⟩
    · cases h
  · exact ⟨_, _, h, rfl, rfl⟩
  · cases h
theorem rb_val {ops : Array Oper} {T : List AV} {H : AHeap} {o : Oper} (hk : kindOf P o ≤ 1) {v : AV} (hv : valV P E ops T H o = some v) (hr : Rb E w0 H T) : Rb E w0 H (putA T o.dst v) := by
  rw [← valV_ok hk] at hv
  have hs := StepD_W (valA_gives (w0 := w0) hk hv)
  obtain ⟨w, ρ, a, R, hf, hT⟩ := hr.act
  unfold StepW guardW at hs
  split at hs
  · unfold resW at hs
    split at hs
    · rename_i v1 H1 h1
      obtain ⟨rfl, rfl⟩ := hs
      obtain ⟨nx, vv, w', ρ', g1, g2, g3, g4, g5, g6, g7⟩ := opA_sound R h1 (eval_rel hT) hf.fresh
      exact Rb.put g6 (hf.step ⟨g3, g7, g4⟩) (put_rel (dst := o.dst) (relL_ext g3 _ _ hT) g5)
    · rename_i f args H1 h1
      obtain ⟨rfl, vargs, g1, g2⟩ := opA_sound R h1 (eval_rel hT)
      obtain ⟨u, ρ', v', H'', w', ⟨rfl, rfl⟩, k1, k2, k3⟩ := hs.sat R hf g2
      exact Rb.put k3 (hf.step k1) (put_rel (dst := o.dst) (relL_ext k1.1 _ _ hT) k2)
    · exact hs.elim
  · obtain ⟨rfl, _⟩ := hs
    exact Rb.put R hf (put_rel (dst := o.dst) hT rel_undef)
  · exact hs.elim
theorem opsX_ok {ops : Array Oper} : ∀ {l : List Oper} {T : List AV} {H : AHeap} {Q : List AV → AHeap → Prop}, OpsX P E w0 ops l T H Q → Rb E w0 H T → ∃ T' H', OpsW P E w0 ops l T H (fun T1 H1 => T1 = T' ∧ H1 = H') ∧ Q T' H'
  | [], T, H, Q, h, hr => by simp only [OpsX, forceL_eq] at h; exact ⟨T, H, ⟨rfl, rfl⟩, h⟩
  | o :: l, T, H, Q, h, hr => by
    simp only [OpsX, forceL_eq] at h
    have val : kindOf P o ≤ 1 → (optW (valV P E ops T H o) fun v => OpsX P E w0 ops l (putA T o.dst v) H Q) → ∃ T' H', OpsW P E w0 ops (o :: l) T H (fun T1 H1 => T1 = T' ∧ H1 = H') ∧ Q T' H' := by
      intro hk h
      unfold optW at h
      split at h
      · rename_i v hv
        obtain ⟨T', H', h1, h2⟩ := opsX_ok h (rb_val hk hv hr)
        refine ⟨T', H', stepW_of_val hk ?_, h2⟩
        rw [hv]
        exact h1
      · exact h.elim
    split at h
    · rename_i x hx
      rw [aliasK_eq] at h
      obtain ⟨hk, hv⟩ := alias_kind (P := P) (E := E) hx
      exact val (by omega) (by rw [hv]; exact h)
    split at h
    · rename_i hk
      exact val (by omega) h
    · rename_i hk
      exact val (by omega) h
    · obtain ⟨v, H1, ⟨h1, h2⟩, h3⟩ := stepD_one (stepX_D h hr)
      obtain ⟨T', H', h4, h5⟩ := opsX_ok h1 h2
      exact ⟨T', H', StepW_mono (StepD_W h3) fun v' H'' e => by obtain ⟨rfl, rfl⟩ := e; exact h4, h5⟩
theorem drawX_ok {ops : Array Oper} : ∀ {l : List Oper} {ds : List Done} {T : List AV} {H : AHeap} {older : List AHeap} {Q : List AV → AHeap → Prop}, (∀ d ∈ ds, d.hi = 1 → kindOf P d.o ≤ 1) → DrawX P E w0 ops l ds T H older Q → Rb E w0 H T → DrawW P E w0 ops l ds T H older Q
  | [], ds, T, H, older, Q, _, h, hr => by simp only [DrawX, forceL_eq] at h; exact h
  | o :: l, ds, T, H, older, Q, hd, h, hr => by
    have hd' : ∀ d : Done, (d.hi = 1 → kindOf P d.o ≤ 1) → ∀ e ∈ ds ++ [d], e.hi = 1 → kindOf P e.o ≤ 1 := by
      intro d h1 e he
      rcases List.mem_append.1 he with he | he
      · exact hd e he
      · simp at he; subst he; exact h1
    simp only [DrawX, forceL_eq] at h
    simp only [DrawW]
    cases hanc : ancOf ds o.after.toList 0 with
    | none => rw [hanc] at h; exact h
    | some anc =>
      simp only [hanc] at h ⊢
      split at h
      · rename_i hap
        rw [if_pos hap]
        cases hx : aliasOf o with
        | some x =>
          simp only [hx, aliasK_eq] at h
          obtain ⟨hk, hv⟩ := alias_kind (P := P) (E := E) hx
          simp only [hk]
          rw [valV_ok (by omega), hv]
          exact drawX_ok (hd' _ fun e => by cases e) h (rb_val (ops := ops) (by omega) (hv _ _ _) hr)
        | none =>
        simp only [hx] at h
        rcases hk : kindOf P o with _ | _ | k
        · simp only [hk] at h ⊢
          rw [valV_ok (by omega)]
          unfold optW at h ⊢
          split at h
          · rename_i v hv
            exact drawX_ok (hd' _ fun e => by cases e) h (rb_val (by omega) hv hr)
          · exact h
        · simp only [hk] at h ⊢
          rw [valV_ok (by omega)]
          unfold optW at h ⊢
          split at h
          · rename_i v hv
            exact ⟨sameV_ok (by omega) h.1, drawX_ok (hd' _ fun _ => by simp only; omega) h.2 (rb_val (by omega) hv hr)⟩
          · exact h
        · simp only [hk] at h ⊢
          split at h
          · rename_i hw
            rw [if_pos hw]
            exact StepD_mono (stepX_D h hr) fun v H' h' => ⟨againV_ok hd h'.1.1, drawX_ok (hd' _ fun e => by cases e) h'.1.2 h'.2⟩
          · exact h.elim
      · exact h.elim
theorem drawW_one {ops : Array Oper} : ∀ {l : List Oper} {ds : List Done} {T : List AV} {H : AHeap} {older : List AHeap} {Q : List AV → AHeap → Prop}, DrawW P E w0 ops l ds T H older Q → ∃ T' H', DrawW P E w0 ops l ds T H older (fun T1 H1 => T1 = T' ∧ H1 = H') ∧ Q T' H'
  | [], ds, T, H, older, Q, h => ⟨T, H, ⟨rfl, rfl⟩, h⟩
  | o :: l, ds, T, H, older, Q, h => by
    simp only [DrawW] at h ⊢
    split at h
    · cases h
    · rename_i anc hanc
      split at h
      · rename_i hap
        simp only [if_pos hap]
        split at h
        · unfold optW at h ⊢
          split at h
          · exact drawW_one h
          · exact h.elim
        · unfold optW at h ⊢
          split at h
          · obtain ⟨T', H', h1, h2⟩ := drawW_one h.2
            exact ⟨T', H', ⟨h.1, h1⟩, h2⟩
          · exact h.elim
        · split at h
          · rename_i hw
            simp only [if_pos hw]
            obtain ⟨v, H1, ⟨h1, h2⟩, h3⟩ := stepD_one h
            obtain ⟨T', H', h4, h5⟩ := drawW_one h2
            exact ⟨T', H', StepD_mono h3 fun v' H'' e => by obtain ⟨rfl, rfl⟩ := e; exact ⟨h1, h4⟩, h5⟩
          · exact h.elim
      · exact h.elim
theorem codeX_seq {x y : Code} {T : List AV} {H : AHeap} {Q : AExit → List AV → AHeap → Prop}
    (h : CodeX P E w0 x T H fun ex T' H' => match ex with | .normal => CodeX P E w0 y T' H' Q | e => Q e T' H') : CodeX P E w0 (.seq x y) T H Q := by
  intro hr
  obtain ⟨ex, T1, H1, h1, h2⟩ := h hr
  have hr1 : Rb E w0 H1 T1 := by
    obtain ⟨_, _, _, ⟨rfl, rfl, rfl⟩, h3⟩ := h1.sat hr
    exact h3
  cases ex with
  | normal =>
    obtain ⟨ex2, T2, H2, h3, h4⟩ := h2 hr1
    refine ⟨ex2, T2, H2, codeW_seq (h1.mono fun e T' H' hq => ?_), h4⟩
    obtain ⟨rfl, rfl, rfl⟩ := hq
    exact h3
  | exit id =>
    refine ⟨.exit id, T1, H1, codeW_seq (h1.mono fun e T' H' hq => ?_), h2⟩
    obtain ⟨rfl, rfl, rfl⟩ := hq
    exact ⟨rfl, rfl, rfl⟩
  | ret =>
    refine ⟨.ret, T1, H1, codeW_seq (h1.mono fun e T' H' hq => ?_), h2⟩
    obtain ⟨rfl, rfl, rfl⟩ := hq
    exact ⟨rfl, rfl, rfl⟩
theorem codeX_block {id : Nat} {x : Code} {T : List AV} {H : AHeap} {Q : AExit → List AV → AHeap → Prop} (h : CodeX P E w0 x T H (blockQ id Q)) : CodeX P E w0 (.block id x) T H Q := by
  intro hr
  obtain ⟨ex, T1, H1, h1, h2⟩ := h hr
  cases ex with
  | normal =>
    refine ⟨.normal, T1, H1, codeW_block (h1.mono fun e T' H' hq => ?_), h2⟩
    obtain ⟨rfl, rfl, rfl⟩ := hq
    exact ⟨rfl, rfl, rfl⟩
  | ret =>
    refine ⟨.ret, T1, H1, codeW_block (h1.mono fun e T' H' hq => ?_), h2⟩
    obtain ⟨rfl, rfl, rfl⟩ := hq
    exact ⟨rfl, rfl, rfl⟩
  | exit id' =>
    simp only [blockQ] at h2
    by_cases e : id' = id
    · rw [if_pos e] at h2
      refine ⟨.normal, T1, H1, codeW_block (h1.mono fun ex T' H' hq => ?_), h2⟩
      obtain ⟨rfl, rfl, rfl⟩ := hq
      simp [blockQ, e]
    · rw [if_neg e] at h2
      refine ⟨.exit id', T1, H1, codeW_block (h1.mono fun ex T' H' hq => ?_), h2⟩
      obtain ⟨rfl, rfl, rfl⟩ := hq
      simp [blockQ, e]
/-- A loop's rounds, to its end. -/
def Runs (P : Program) (E : Env) (w0 : World) (c : Code) (ex : AExit) (TF : List AV) (HF : AHeap) : Nat → List AV → AHeap → Prop
  | 0, T, H => CodeW P E w0 c T H fun e1 T1 H1 => e1 = ex ∧ T1 = TF ∧ H1 = HF
  | k + 1, T, H => ∃ T' H', CodeW P E w0 c T H (fun e1 T1 H1 => e1 = .normal ∧ T1 = T' ∧ H1 = H') ∧ Runs P E w0 c ex TF HF k T' H'
/-- LOOPS: an invariant with a number that falls. -/
theorem codeX_loop {c : Code} {Q : AExit → List AV → AHeap → Prop} {I : Nat → List AV → AHeap → Prop}
    (step : ∀ n T H, I n T H → CodeX P E w0 c T H fun ex T' H' => match ex with | .normal => ∃ m, m < n ∧ I m T' H' | e => Q e T' H')
    {n : Nat} {T : List AV} {H : AHeap} (h : I n T H) : CodeX P E w0 (.loop c) T H Q := by
  intro hr
  have main : ∀ (n : Nat) (T : List AV) (H : AHeap), I n T H → Rb E w0 H T → ∃ ex TF HF k, ex ≠ .normal ∧ Runs P E w0 c ex TF HF k T H ∧ Q ex TF HF := by
    intro n
    induction n using Nat.strongRecOn with
    | ind n ih =>
      intro T H hI hr
      obtain ⟨ex, T1, H1, h1, h2⟩ := step n T H hI hr
      cases ex with
      | normal =>
        have hr1 : Rb E w0 H1 T1 := by
          obtain ⟨_, _, _, ⟨rfl, rfl, rfl⟩, h3⟩ := h1.sat hr
          exact h3
        obtain ⟨m, hm, hI'⟩ := h2
        obtain ⟨ex, TF, HF, k, a, b, c⟩ := ih m hm T1 H1 hI' hr1
        exact ⟨ex, TF, HF, k + 1, a, ⟨T1, H1, h1, b⟩, c⟩
      | exit id => exact ⟨.exit id, T1, H1, 0, (fun e => by cases e), h1, h2⟩
      | ret => exact ⟨.ret, T1, H1, 0, (fun e => by cases e), h1, h2⟩
  obtain ⟨ex, TF, HF, k, a, b, hq⟩ := main n T H h hr
  refine ⟨ex, TF, HF, codeW_loop (I := Runs P E w0 c ex TF HF) ?_ b, hq⟩
  intro n T H hR
  cases n with
  | zero =>
    refine CodeW.mono hR fun e T' H' hq => ?_
    obtain ⟨rfl, rfl, rfl⟩ := hq
    cases e with
    | normal => exact (a rfl).elim
    | exit id => exact ⟨rfl, rfl, rfl⟩
    | ret => exact ⟨rfl, rfl, rfl⟩
  | succ k =>
    obtain ⟨T1, H1, h1, h2⟩ := hR
    refine CodeW.mono h1 fun e T' H' hq => ?_
    obtain ⟨rfl, rfl, rfl⟩ := hq
    exact ⟨k, Nat.lt_succ_self k, h2⟩
theorem codeX_end {c : Code} {T : List AV} {H : AHeap} {Q : AExit → List AV → AHeap → Prop} {ex : AExit} (hq : Q ex T H) (h : ∀ Q', Q' ex T H → CodeW P E w0 c T H Q') : CodeX P E w0 c T H Q := fun _ => ⟨ex, T, H, h _ ⟨rfl, rfl, rfl⟩, hq⟩
theorem resultW_imp {H : AHeap} {T : List AV} {l : List ResultVar} {K K' : List AV → Prop} (h : resultW P E H T l K) (hk : ∀ vs, K vs → K' vs) : resultW P E H T l K' := by
  induction l generalizing K K' with
  | nil => exact hk _ h
  | cons r l ih =>
    cases r with
    | tmp t => exact ih h fun vs hv => hk _ hv
    | cell a t =>
      simp only [resultW] at h ⊢
      split at h
      · unfold optW at h ⊢
        split at h
        · exact ih h fun vs hv => hk _ hv
        · exact h.elim
      · exact h.elim
theorem resultW_one {H : AHeap} {T : List AV} : ∀ {l : List ResultVar} {K : List AV → Prop}, resultW P E H T l K → ∃ vs, K vs ∧ resultW P E H T l fun vs' => vs' = vs
  | [], K, h => ⟨[], h, rfl⟩
  | .tmp t :: l, K, h => by
    obtain ⟨vs, h1, h2⟩ := resultW_one (l := l) h
    refine ⟨_, h1, ?_⟩
    simp only [resultW]
    exact resultW_imp h2 fun vs' e => by rw [e]
  | .cell a t :: l, K, h => by
    simp only [resultW] at h
    split at h
    · rename_i o i e
      unfold optW at h
      split at h
      · rename_i v hv
        obtain ⟨vs, h1, h2⟩ := resultW_one (l := l) h
        refine ⟨_, h1, ?_⟩
        simp only [resultW, e, hv, optW_some]
        exact resultW_imp h2 fun vs' e => by rw [e]
      · cases h
    · cases h
/-- A CALL, by its body. -/
theorem fnX_of_code {f : FuncId} {fn : Func} {c : Code} (hfn : P.funcs[f]? = some fn) (hb : fn.body = some c) {args : List AV} {H : AHeap} {Q : AV → AHeap → Prop}
    (h : CodeX P E w0 c (args ++ List.replicate (fn.ntmps - args.length) undefA) H (retQ P E fn Q)) : FnX P E w0 f args H Q := by
  intro hr
  have hr' : Rb E w0 H (args ++ List.replicate (fn.ntmps - args.length) undefA) := by
    obtain ⟨w, ρ, vs, R, hf, hT⟩ := hr
    refine ⟨w, ρ, vs ++ Array.replicate (fn.ntmps - args.length) undef, R, hf, ?_⟩
    rw [Array.toList_append, Array.toList_replicate]
    refine relL_append hT ?_
    generalize fn.ntmps - args.length = m
    induction m with
    | zero => exact relL_nil.2 rfl
    | succ m ihm => exact relL_cons.2 ⟨rel_undef, ihm⟩
  obtain ⟨ex, T', H', h1, h2⟩ := h hr'
  have h3 : ex ≠ .normal ∧ ex ≠ .ret → False := fun ⟨a, b⟩ => by
    cases ex with
    | normal => exact a rfl
    | ret => exact b rfl
    | exit id => exact h2
  have h2' : resultW P E H' T' fn.results.toList fun vs => Q (packA vs) H' := by
    cases ex with
    | normal => exact h2
    | ret => exact h2
    | exit id => exact (h3 ⟨(fun e => by cases e), (fun e => by cases e)⟩).elim
  obtain ⟨vs, hq, hres⟩ := resultW_one h2'
  refine ⟨packA vs, H', fnW_of_code hfn hb (h1.mono fun e T1 H1 he => ?_), hq⟩
  obtain ⟨rfl, rfl, rfl⟩ := he
  have hres' : resultW P E H1 T1 fn.results.toList fun vs' => packA vs' = packA vs ∧ H1 = H1 := resultW_imp hres fun vs' e => ⟨by rw [e], rfl⟩
  cases e with
  | normal => exact hres'
  | ret => exact hres'
  | exit id => exact (h3 ⟨(fun e => by cases e), (fun e => by cases e)⟩).elim
/-- A pure function's answer, by one run from nothing; it holds no places. -/
theorem fnX_pure (hm : P.follows .mixedOrders = true) {n : Nat} {f : FuncId} {args : List AV} {v : AV} {H1 : AHeap} (h : callFA P (fun _ => none) noOv n f args AHeap.empty = some (v, H1))
    (hargs : ∀ ρ vs, relL ρ args vs → relL (fun _ => none) args vs) (hv : ∀ ρ ρ' u, rel ρ v u → rel ρ' v u) {H : AHeap} : FnX P E w0 f args H fun v' H' => v' = v ∧ H' = H :=
  fnX_of_W (fnW_pure hm h hargs hv)
end
end Go.Am
end
