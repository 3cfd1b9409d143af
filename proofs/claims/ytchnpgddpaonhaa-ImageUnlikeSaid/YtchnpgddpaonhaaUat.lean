/-
  Texts Dg Dh Dl, as far as they are used.
-/
import Derived.Test.YtchnpgddpaonhaaUas
import Derived.Test.YtchnpgddpaonhaaUap
section
namespace Go.Am
set_option linter.unusedVariables false
set_option linter.unusedSimpArgs false
def putD (T : List D) (dst : Option Tmp) (v : D) : List D := match dst with
  | some d => T.set d v
  | none => T
def forceD : List D → (List D → Prop) → Prop
  | [], k => k []
  | a :: l, k => forceD l fun l' => k (a :: l')
def lookD : List D → Nat → (D → Prop) → Prop
  | [], _, k => k undefD
  | a :: l, n, k => match n with
    | 0 => k a
    | n + 1 => lookD l n k
def aliasKD (T : List D) (x : Operand) (k : D → Prop) : Prop := match x with
  | .tmp t => lookD T t k
  | x => k (dEval T x)
def wantsD (g : D) (want : Bool) : Option Bool := match g with
  | .bool b => some (b == want)
  | .any => none
  | _ => some false
def wantedD (ops : Array Oper) (T : List D) (o : Oper) : Option Bool :=
  match o.guard with
  | none => some true
  | some (j, want) => match (ops[j]?).bind (·.dst) with
    | none => some false
    | some d => match T[d]? with
      | some x => wantsD x want
      | none => some false
def valGD (g : Option Bool) (r : Option D) : Option D := match g with
  | some true => r
  | some false => some undefD
  | none => none
def guardD (r : Option Bool) (s : (D → DSt → Prop) → Prop) (S : DSt) (Q : D → DSt → Prop) : Prop := match r with
  | some true => s Q
  | some false => Q undefD S
  | none => False
def valD (P : Program) (ops : Array Oper) (T : List D) (S : DSt) (o : Oper) : Option D := valGD (wantedD ops T o) (opVD P T S o)
def StepL (P : Program) (G : DW) (ops : Array Oper) (T : List D) (S : DSt) (o : Oper) (K : D → DSt → Prop) : Prop := guardD (wantedD ops T o) (opWD P G T S o) S K
def OpsD (P : Program) (G : DW) (ops : Array Oper) : List Oper → List D → DSt → (List D → DSt → Prop) → Prop
  | [], T, S, Q => forceD T fun T => Q T S
  | o :: l, T, S, Q => forceD T fun T => match aliasOf o with
   | some x => aliasKD T x fun e => OpsD P G ops l (putD T o.dst e) S Q
   | none => match kindOf P o with
    | 0 | 1 => optW (valD P ops T S o) fun v => OpsD P G ops l (putD T o.dst v) S Q
    | _ => StepL P G ops T S o fun v S' => OpsD P G ops l (putD T o.dst v) S' Q
structure DoneD where
  d : Done
  T : List D
  S : DSt
def footW (x : D) (S S' : DSt) : Prop := match footK x with
  | some k => S' k = S k
  | none => True
def footOk (T : List D) (o : Oper) (S S' : DSt) : Prop := match o.op with
  | .load _ a => footW (dEval T a) S S'
  | .convert _ _ x => footW (dEval T x) S S'
  | _ => True
def orAny (r : Option D) : D := match r with
  | some d => d
  | none => .any
def sameG (P : Program) (ops : Array Oper) (o : Oper) (S : DSt) : List (List D × DSt) → Prop
  | [] => True
  | g :: gs => (valD P ops g.1 g.2 o ≠ none ∧ footOk g.1 o g.2 S) ∧ sameG P ops o S gs
def againG (S' : DSt) (anc : Nat) : Nat → List DoneD → Prop
  | _, [] => True
  | j, d :: ds => if d.d.hi == 1 && !anc.testBit j then footOk d.T d.d.o d.S S' ∧ againG S' anc (j + 1) ds else againG S' anc (j + 1) ds
/-- What an operation puts into the rows of the states behind: of the first n what it tells there, of the others nothing. -/
def putOld (P : Program) (ops : Array Oper) (o : Oper) : Nat → List (List D × DSt) → List (List D × DSt)
  | _, [] => []
  | 0, g :: gs => (putD g.1 o.dst .any, g.2) :: putOld P ops o 0 gs
  | n + 1, g :: gs => (putD g.1 o.dst (orAny (valD P ops g.1 g.2 o)), g.2) :: putOld P ops o n gs
def DrawD (P : Program) (G : DW) (ops : Array Oper) : List Oper → List DoneD → List D → DSt → List (List D × DSt) → (List D → DSt → Prop) → Prop
  | [], _, T, S, _, Q => forceD T fun T => Q T S
  | o :: l, ds, T, S, older, Q => match ancOf (ds.map (·.d)) o.after.toList 0 with
    | none => False
    | some anc => if allI (fun j e => anc.testBit j || o.apart ops e.o) 0 (ds.map (·.d)) then forceD T fun T =>
        match aliasOf o with
        | some x => aliasKD T x fun v => DrawD P G ops l (ds ++ [⟨⟨o, anc, [], undefA, older.length, 0, false, []⟩, T, S⟩]) (putD T o.dst v) S (putOld P ops o older.length older) Q
        | none => match kindOf P o with
        | 0 => optW (valD P ops T S o) fun v => DrawD P G ops l (ds ++ [⟨⟨o, anc, [], undefA, older.length, 0, false, []⟩, T, S⟩]) (putD T o.dst v) S (putOld P ops o older.length older) Q
        | 1 => optW (valD P ops T S o) fun v => sameG P ops o S (older.take (older.length - loOf anc 0 (ds.map (·.d)) 0)) ∧
            DrawD P G ops l (ds ++ [⟨⟨o, anc, [], undefA, older.length, 1, false, []⟩, T, S⟩]) (putD T o.dst v) S (putOld P ops o (older.length - loOf anc 0 (ds.map (·.d)) 0) older) Q
        | _ => if allI (fun j e => !e.wr || anc.testBit j) 0 (ds.map (·.d)) then
            StepL P G ops T S o fun v S' => againG S' anc 0 ds ∧
              DrawD P G ops l (ds ++ [⟨⟨o, anc, [], undefA, older.length, 2, true, []⟩, T, S⟩]) (putD T o.dst v) S' ((putD T o.dst .any, S) :: putOld P ops o 0 older) Q
          else False
      else False
section
variable {P : Program} {E : Env} {w0 : World}
theorem forceD_eq : ∀ {T : List D} {k : List D → Prop}, forceD T k = k T
  | [], k => rfl
  | a :: l, k => by simp only [forceD]; rw [forceD_eq]
theorem lookD_eq : ∀ {T : List D} {n : Nat} {k : D → Prop}, lookD T n k = k (T.getD n undefD)
  | [], n, k => rfl
  | a :: l, 0, k => rfl
  | a :: l, n + 1, k => by simp only [lookD]; rw [lookD_eq]; simp
theorem aliasKD_eq {T : List D} {x : Operand} {k : D → Prop} : aliasKD T x k = k (dEval T x) := by
  cases x <;> first | rfl | exact lookD_eq
theorem putD_length (T : List D) (dst : Option Tmp) (v : D) : (putD T dst v).length = T.length := by
  cases dst with
  | none => rfl
  | some d => exact List.length_set
theorem rpL_put {R : Fz} {T : List D} {avs : List AV} (h : RpL E R T avs) (dst : Option Tmp) {d : D} {v : AV} (hd : Rp E R d v) : RpL E R (putD T dst d) (putA avs dst v) := by
  cases dst with
  | none => exact h
  | some t => exact h.set t hd
theorem rp_any {R : Fz} {v : AV} : Rp E R .any v := by simp only [Rp]
theorem opW_mono {F : FW} (hF : GoodF F) {T : List AV} {H : AHeap} {o : Oper} {K K' : AV → AHeap → Prop} (hk : ∀ v H', K v H' → K' v H') (h : opW P E F T H o K) : opW P E F T H o K' := by
  have o1 : ∀ {α : Type} {r : Option α} {f g : α → Prop}, (∀ x, f x → g x) → optW r f → optW r g := by
    intro α r f g hfg h
    cases r with
    | none => exact h
    | some x => exact hfg x h
  have o2 : ∀ {r : Option (AV × AHeap)}, opt2W r K → opt2W r K' := by
    intro r h
    cases r with
    | none => exact h
    | some x => exact hk _ _ h
  have rf : ∀ {r : Option ARes}, resF F r K → resF F r K' := by
    intro r h
    unfold resF at *
    split
    · exact hk _ _ h
    · exact hF _ _ _ _ _ h hk
    · exact h
  obtain ⟨dst, op, type, pos, after, guard⟩ := o
  cases op <;> simp only [opW] at h ⊢ <;> try (first | exact o1 (fun v hv => hk _ _ hv) h | exact o2 h)
  case box e x => exact hk _ _ h
  case store t a x =>
    unfold storeW at *
    split at h
    · split at h
      · rename_i hs
        rw [if_pos hs]
        exact o1 (fun v hv => hk _ _ hv) h
      · exact h.elim
    · exact h.elim
  case makeMap t r =>
    cases r with
    | none => exact hk _ _ h
    | some x => exact h
  case call c =>
    cases hc : c.callee with
    | value f =>
      simp only [hc] at h ⊢
      cases f with
      | func g =>
        simp only at h ⊢
        split at h
        · rename_i hb; rw [if_pos hb]; exact hF _ _ _ _ _ h hk
        · exact h.elim
      | tmp t => exact rf h
      | const v => exact rf h
      | global g => exact rf h
    | invoke r m =>
      simp only [hc] at h ⊢
      exact rf h
    | builtin b =>
      simp only [hc] at h ⊢
      generalize c.args.toList.map (aEval T) = as at h ⊢
      generalize c.argTypes.toList = ts at h ⊢
      cases b <;> (try simp only at h ⊢) <;> try (exact o1 (fun v hv => hk _ _ hv) h)
      case append =>
        rcases as with _ | ⟨s, _ | ⟨x, _ | ⟨y, as⟩⟩⟩ <;> rcases ts with _ | ⟨sT, _ | ⟨xT, _ | ⟨u, ts⟩⟩⟩ <;> first | exact o2 h | exact o1 (fun v hv => hk _ _ hv) h
      case copy =>
        rcases as with _ | ⟨s, _ | ⟨x, _ | ⟨y, as⟩⟩⟩ <;> rcases ts with _ | ⟨sT, ts⟩ <;> first | exact o2 h | exact o1 (fun v hv => hk _ _ hv) h
theorem fnX_good : GoodF (FnX P E w0) := fun f args H Q Q' h hq => h.mono hq
theorem fnW_good : GoodF (FnW P E w0) := fun f args H Q Q' h hq => h.mono hq
theorem wanted_ok {R : Fz} {T : List D} {avs : List AV} (h : RpL E R T avs) {ops : Array Oper} {o : Oper} {b : Bool} (hw : wantedD ops T o = some b) : wantedA ops avs o = some b := by
  unfold wantedD at hw
  unfold wantedA
  cases hg : o.guard with
  | none => rw [hg] at hw; exact hw
  | some jw =>
    obtain ⟨j, want⟩ := jw
    simp only [hg] at hw ⊢
    cases hd : (ops[j]?).bind (·.dst) with
    | none => simp only [hd] at hw ⊢; exact hw
    | some d =>
      simp only [hd] at hw ⊢
      cases hx : T[d]? with
      | none =>
        have : avs[d]? = none := List.getElem?_eq_none (by rw [h.length]; exact List.getElem?_eq_none_iff.1 hx)
        simp only [hx] at hw
        simp only [this]
        exact hw
      | some x =>
        simp only [hx] at hw
        obtain ⟨v, h1, h2⟩ := rpL_get h hx
        simp only [h1]
        cases x <;> simp only [wantsD] at hw <;> try (cases hw; done)
        all_goals
          simp only [Rp] at h2
          first
            | (subst h2; exact hw)
            | (rcases h2 with ⟨_, rfl⟩ | ⟨o, j, cap, ex, z, rfl, _⟩ <;> exact hw)
            | (obtain ⟨o, j, cap, ex, z, all, rfl, _⟩ := h2; exact hw)
            | (obtain ⟨o, j, all, rfl, _⟩ := h2; exact hw)
            | (obtain ⟨a', b', rfl, _⟩ := h2; exact hw)
            | (obtain ⟨v', rfl, _⟩ := h2; exact hw)
theorem footOf_ok {T : List D} {o : Oper} {S S' : DSt} (h : footOk T o S S') {k : Nat} (hk : footOf T o = some k) : S' k = S k := by
  unfold footOf at hk
  unfold footOk at h
  split at hk
  · rename_i e; simp only [e, footW, hk] at h; exact h
  · rename_i e; simp only [e, footW, hk] at h; exact h
  · cases hk
theorem valD_ok {R : Fz} {S : DSt} {H : AHeap} {T : List D} {avs : List AV} (hT : RpL E R T avs) (hC : Conf E R S H) {ops : Array Oper} {o : Oper} {d : D} (h : valD P ops T S o = some d) :
    ∃ v, Rp E R d v ∧ ∀ H, Agr R S (footOf T o) H → valV P E ops avs H o = some v := by
  unfold valD valGD at h
  split at h
  · rename_i hw
    obtain ⟨v, h1, h2⟩ := opVD_ok hT hC h
    exact ⟨v, h1, fun H hA => by unfold valV; rw [wanted_ok hT hw]; exact h2 H hA⟩
  · rename_i hw
    cases h
    exact ⟨undefA, rp_undef, fun H hA => by unfold valV; rw [wanted_ok hT hw]; rfl⟩
  · cases h
theorem stepL_ok {F : FW} {R : Fz} {S : DSt} {H : AHeap} (hF : Fine H) (hC : Conf E R S H) {T : List D} {avs : List AV} (hT : RpL E R T avs) {ops : Array Oper} {o : Oper} {K : D → DSt → Prop} (h : StepL P (DF E F) ops T S o K) : StepV P E F ops avs H o (PostD E R K) := by
  unfold StepL guardD at h
  unfold StepV
  split at h
  · rename_i hw
    rw [wanted_ok hT hw]
    exact opWD_ok hF hC hT h
  · rename_i hw
    rw [wanted_ok hT hw]
    exact ⟨hF, R, S, undefD, Fz.le_refl R, hC, rp_undef, h⟩
  · exact h.elim
theorem StepV_mono {F : FW} (hF : GoodF F) {ops : Array Oper} {T : List AV} {H : AHeap} {o : Oper} {K K' : AV → AHeap → Prop} (h : StepV P E F ops T H o K) (hk : ∀ v H', K v H' → K' v H') : StepV P E F ops T H o K' := by
  unfold StepV guardW at *
  split <;> rename_i e <;> rw [e] at h
  · exact opW_mono hF hk h
  · exact hk _ _ h
  · exact h
def PostL (E : Env) (R : Fz) (n : Nat) (Q : List D → DSt → Prop) (avs' : List AV) (H' : AHeap) : Prop := Fine H' ∧ ∃ R' S' T', R.le R' ∧ Conf E R' S' H' ∧ RpL E R' T' avs' ∧ T'.length = n ∧ Q T' S'
theorem PostL.le {R R1 : Fz} (h : R.le R1) {n : Nat} {Q : List D → DSt → Prop} {avs' : List AV} {H' : AHeap} (hp : PostL E R1 n Q avs' H') : PostL E R n Q avs' H' := by
  obtain ⟨F, R', S', T', a, b⟩ := hp
  exact ⟨F, R', S', T', Fz.le_trans h a, b⟩
theorem OpsX_mono {ops : Array Oper} : ∀ {l : List Oper} {T : List AV} {H : AHeap} {Q Q' : List AV → AHeap → Prop}, (∀ T H, Q T H → Q' T H) → OpsX P E w0 ops l T H Q → OpsX P E w0 ops l T H Q'
  | [], T, H, Q, Q', hq, h => by simp only [OpsX, forceL_eq] at *; exact hq _ _ h
  | o :: l, T, H, Q, Q', hq, h => by
    simp only [OpsX, forceL_eq, aliasK_eq] at *
    have ov : ∀ {r : Option AV} {f g : AV → Prop}, (∀ x, f x → g x) → optW r f → optW r g := by
      intro r f g hfg h
      cases r with
      | none => exact h
      | some x => exact hfg x h
    split at h
    · exact OpsX_mono hq h
    · split at h
      · exact ov (fun v hv => OpsX_mono hq hv) h
      · exact ov (fun v hv => OpsX_mono hq hv) h
      · exact StepV_mono fnX_good h fun v H' h' => OpsX_mono hq h'
theorem OpsV_mono {ops : Array Oper} : ∀ {l : List Oper} {T : List AV} {H : AHeap} {Q Q' : List AV → AHeap → Prop}, (∀ T H, Q T H → Q' T H) → OpsV P E w0 ops l T H Q → OpsV P E w0 ops l T H Q'
  | [], T, H, Q, Q', hq, h => by simp only [OpsV, forceL_eq] at *; exact hq _ _ h
  | o :: l, T, H, Q, Q', hq, h => by
    simp only [OpsV, forceL_eq, aliasK_eq] at *
    have ov : ∀ {r : Option AV} {f g : AV → Prop}, (∀ x, f x → g x) → optW r f → optW r g := by
      intro r f g hfg h
      cases r with
      | none => exact h
      | some x => exact hfg x h
    split at h
    · exact OpsV_mono hq h
    · split at h
      · exact ov (fun v hv => OpsV_mono hq hv) h
      · exact ov (fun v hv => OpsV_mono hq hv) h
      · exact StepV_mono fnW_good h fun v H' h' => OpsV_mono hq h'
theorem opsD_X {ops : Array Oper} : ∀ {l : List Oper} {T : List D} {avs : List AV} {S : DSt} {H : AHeap} {R : Fz} {Q : List D → DSt → Prop}, Fine H → Conf E R S H → RpL E R T avs → OpsD P (DF E (FnX P E w0)) ops l T S Q → OpsX P E w0 ops l avs H (PostL E R T.length Q)
  | [], T, avs, S, H, R, Q, F, hC, hT, h => by
    simp only [OpsD, forceD_eq] at h
    simp only [OpsX, forceL_eq]
    exact ⟨F, R, S, T, Fz.le_refl R, hC, hT, rfl, h⟩
  | o :: l, T, avs, S, H, R, Q, F, hC, hT, h => by
    simp only [OpsD, forceD_eq, aliasKD_eq] at h
    simp only [OpsX, forceL_eq, aliasK_eq]
    have next : ∀ {d : D} {v : AV} {R' : Fz} {S' : DSt} {H' : AHeap}, R.le R' → Fine H' → Conf E R' S' H' → Rp E R' d v → OpsD P (DF E (FnX P E w0)) ops l (putD T o.dst d) S' Q → OpsX P E w0 ops l (putA avs o.dst v) H' (PostL E R T.length Q) := by
      intro d v R' S' H' hle F' hC' hd h'
      have := opsD_X F' hC' (rpL_put (RpL.le hle _ _ hT) o.dst hd) h'
      rw [putD_length] at this
      exact OpsX_mono (fun _ _ => PostL.le hle) this
    have val : (optW (valD P ops T S o) fun v => OpsD P (DF E (FnX P E w0)) ops l (putD T o.dst v) S Q) → optW (valV P E ops avs H o) fun v => OpsX P E w0 ops l (putA avs o.dst v) H (PostL E R T.length Q) := by
      intro h
      unfold optW at h
      split at h
      · rename_i d hd
        obtain ⟨v, h1, h2⟩ := valD_ok hT hC hd
        rw [h2 H (hC.agr _)]
        exact next (Fz.le_refl R) F hC h1 h
      · exact h.elim
    cases ha : aliasOf o with
    | some x => simp only [ha] at h ⊢; exact next (Fz.le_refl R) F hC (rp_eval hT _) h
    | none =>
      simp only [ha] at h ⊢
      rcases hk : kindOf P o with _ | _ | k
      · simp only [hk] at h ⊢; exact val h
      · simp only [hk] at h ⊢; exact val h
      · simp only [hk] at h ⊢
        refine StepV_mono fnX_good (stepL_ok F hC hT h) ?_
        rintro v H' ⟨F', R', S', d, hle, hC', hd, h'⟩
        exact next hle F' hC' hd h'
theorem opsD_W {ops : Array Oper} : ∀ {l : List Oper} {T : List D} {avs : List AV} {S : DSt} {H : AHeap} {R : Fz} {Q : List D → DSt → Prop}, Fine H → Conf E R S H → RpL E R T avs → OpsD P (DF E (FnW P E w0)) ops l T S Q → OpsV P E w0 ops l avs H (PostL E R T.length Q)
  | [], T, avs, S, H, R, Q, F, hC, hT, h => by
    simp only [OpsD, forceD_eq] at h
    simp only [OpsV, forceL_eq]
    exact ⟨F, R, S, T, Fz.le_refl R, hC, hT, rfl, h⟩
  | o :: l, T, avs, S, H, R, Q, F, hC, hT, h => by
    simp only [OpsD, forceD_eq, aliasKD_eq] at h
    simp only [OpsV, forceL_eq, aliasK_eq]
    have next : ∀ {d : D} {v : AV} {R' : Fz} {S' : DSt} {H' : AHeap}, R.le R' → Fine H' → Conf E R' S' H' → Rp E R' d v → OpsD P (DF E (FnW P E w0)) ops l (putD T o.dst d) S' Q → OpsV P E w0 ops l (putA avs o.dst v) H' (PostL E R T.length Q) := by
      intro d v R' S' H' hle F' hC' hd h'
      have := opsD_W F' hC' (rpL_put (RpL.le hle _ _ hT) o.dst hd) h'
      rw [putD_length] at this
      exact OpsV_mono (fun _ _ => PostL.le hle) this
    have val : (optW (valD P ops T S o) fun v => OpsD P (DF E (FnW P E w0)) ops l (putD T o.dst v) S Q) → optW (valV P E ops avs H o) fun v => OpsV P E w0 ops l (putA avs o.dst v) H (PostL E R T.length Q) := by
      intro h
      unfold optW at h
      split at h
      · rename_i d hd
        obtain ⟨v, h1, h2⟩ := valD_ok hT hC hd
        rw [h2 H (hC.agr _)]
        exact next (Fz.le_refl R) F hC h1 h
      · exact h.elim
    cases ha : aliasOf o with
    | some x => simp only [ha] at h ⊢; exact next (Fz.le_refl R) F hC (rp_eval hT _) h
    | none =>
      simp only [ha] at h ⊢
      rcases hk : kindOf P o with _ | _ | k
      · simp only [hk] at h ⊢; exact val h
      · simp only [hk] at h ⊢; exact val h
      · simp only [hk] at h ⊢
        refine StepV_mono fnW_good (stepL_ok F hC hT h) ?_
        rintro v H' ⟨F', R', S', d, hle, hC', hd, h'⟩
        exact next hle F' hC' hd h'
end
end Go.Am
end

section
namespace Go.Am
set_option linter.unusedVariables false
set_option linter.unusedSimpArgs false
section
variable {P : Program} {E : Env} {w0 : World}
def OldR (E : Env) (R : Fz) (avs : List AV) : List (List D × DSt) → List AHeap → Prop
  | [], [] => True
  | g :: gs, G :: Gs => (∃ RG, RG.le R ∧ Conf E RG g.2 G ∧ RpL E RG g.1 avs) ∧ OldR E R avs gs Gs
  | _, _ => False
def EntR (P : Program) (E : Env) (ops : Array Oper) (R : Fz) (x : DoneD) (y : Done) : Prop :=
  x.d.o = y.o ∧ x.d.anc = y.anc ∧ x.d.lo = y.lo ∧ x.d.hi = y.hi ∧ x.d.wr = y.wr ∧
    (y.hi = 1 → kindOf P y.o ≤ 1 ∧ ∃ Rd : Fz, Rd.le R ∧ ∀ H', Agr Rd x.S (footOf x.T x.d.o) H' → valV P E ops y.T H' y.o = some y.v)
def DsR (P : Program) (E : Env) (ops : Array Oper) (R : Fz) : List DoneD → List Done → Prop
  | [], [] => True
  | x :: xs, y :: ys => EntR P E ops R x y ∧ DsR P E ops R xs ys
  | _, _ => False
theorem OldR.length {R : Fz} {avs : List AV} : ∀ {gs : List (List D × DSt)} {Gs : List AHeap}, OldR E R avs gs Gs → gs.length = Gs.length
  | [], [], _ => rfl
  | g :: gs, G :: Gs, h => by rw [List.length_cons, List.length_cons, OldR.length h.2]
  | [], _ :: _, h => h.elim
  | _ :: _, [], h => h.elim
theorem EntR.le {ops : Array Oper} {R R' : Fz} (hle : R.le R') {x : DoneD} {y : Done} (h : EntR P E ops R x y) : EntR P E ops R' x y := by
  obtain ⟨a, b, c, d, e, f⟩ := h
  exact ⟨a, b, c, d, e, fun hy => by obtain ⟨k, Rd, g1, g2⟩ := f hy; exact ⟨k, Rd, Fz.le_trans g1 hle, g2⟩⟩
theorem DsR.le {ops : Array Oper} {R R' : Fz} (hle : R.le R') : ∀ {xs : List DoneD} {ys : List Done}, DsR P E ops R xs ys → DsR P E ops R' xs ys
  | [], [], h => h
  | x :: xs, y :: ys, h => ⟨h.1.le hle, DsR.le hle h.2⟩
  | [], _ :: _, h => h.elim
  | _ :: _, [], h => h.elim
theorem DsR.snoc {ops : Array Oper} {R : Fz} {x : DoneD} {y : Done} (h1 : EntR P E ops R x y) : ∀ {xs : List DoneD} {ys : List Done}, DsR P E ops R xs ys → DsR P E ops R (xs ++ [x]) (ys ++ [y])
  | [], [], h => ⟨h1, trivial⟩
  | x :: xs, y :: ys, h => ⟨h.1, DsR.snoc h1 h.2⟩
  | [], _ :: _, h => h.elim
  | _ :: _, [], h => h.elim
theorem DsR.get {ops : Array Oper} {R : Fz} : ∀ {xs : List DoneD} {ys : List Done}, DsR P E ops R xs ys → ∀ i : Nat, (∃ x y, (xs.map (·.d))[i]? = some x ∧ ys[i]? = some y ∧ x.anc = y.anc) ∨ ((xs.map (·.d))[i]? = none ∧ ys[i]? = none)
  | [], [], _, i => .inr ⟨rfl, rfl⟩
  | x :: xs, y :: ys, h, 0 => .inl ⟨x.d, y, rfl, rfl, h.1.2.1⟩
  | x :: xs, y :: ys, h, i + 1 => DsR.get h.2 i
  | [], _ :: _, h, _ => h.elim
  | _ :: _, [], h, _ => h.elim
theorem DsR.anc {ops : Array Oper} {R : Fz} {xs : List DoneD} {ys : List Done} (h : DsR P E ops R xs ys) : ∀ (es : List Edge) (m : Nat), ancOf (xs.map (·.d)) es m = ancOf ys es m
  | [], m => rfl
  | e :: es, m => by
    simp only [ancOf]
    split
    · rcases h.get e.on with ⟨x, y, h1, h2, h3⟩ | ⟨h1, h2⟩
      · simp only [h1, h2, h3]; exact DsR.anc h es _
      · simp only [h1, h2]
    · exact DsR.anc h es m
theorem DsR.all {ops : Array Oper} {R : Fz} {p : Nat → Done → Bool} (hp : ∀ j x y, x.o = y.o → x.wr = y.wr → p j x = p j y) : ∀ {xs : List DoneD} {ys : List Done} (j : Nat), DsR P E ops R xs ys → allI p j (xs.map (·.d)) = allI p j ys
  | [], [], j, _ => rfl
  | x :: xs, y :: ys, j, h => by
    simp only [List.map_cons, allI]
    rw [hp j _ _ h.1.1 h.1.2.2.2.2.1, DsR.all hp (j + 1) h.2]
  | [], _ :: _, _, h => h.elim
  | _ :: _, [], _, h => h.elim
theorem DsR.lo {ops : Array Oper} {R : Fz} {anc : Nat} : ∀ {xs : List DoneD} {ys : List Done} (j m : Nat), DsR P E ops R xs ys → loOf anc j (xs.map (·.d)) m = loOf anc j ys m
  | [], [], j, m, _ => rfl
  | x :: xs, y :: ys, j, m, h => by
    simp only [List.map_cons, loOf]
    rw [h.1.2.2.1, h.1.2.2.2.2.1, DsR.lo (j + 1) _ h.2]
  | [], _ :: _, _, _, h => h.elim
  | _ :: _, [], _, _, h => h.elim
/-- Of a kind that reads nothing. -/
theorem valV_pure {ops : Array Oper} {avs : List AV} {o : Oper} (hk : kindOf P o = 0) {G H : AHeap} {v : AV} (h : valV P E ops avs G o = some v) : valV P E ops avs H o = some v := by
  rw [← valV_ok (by omega)] at h ⊢
  unfold valA valG at *
  split at h
  · unfold valOf at h ⊢
    split at h
    · rename_i v1 H1 h1
      cases h
      rw [(opA_pure hk h1).2 H]
    · cases h
  · exact h
  · cases h
theorem OldR.any {R R' : Fz} (hle : R.le R') {avs : List AV} {ops : Array Oper} {o : Oper} {v : AV} : ∀ {gs : List (List D × DSt)} {Gs : List AHeap}, OldR E R avs gs Gs → OldR E R' (putA avs o.dst v) (putOld P ops o 0 gs) Gs
  | [], [], _ => trivial
  | g :: gs, G :: Gs, ⟨⟨RG, a, b, c⟩, h⟩ => ⟨⟨RG, Fz.le_trans a hle, b, rpL_put c o.dst rp_any⟩, OldR.any hle h⟩
  | [], _ :: _, h => h.elim
  | _ :: _, [], h => h.elim
/-- Of the first n the value is the same. -/
theorem OldR.put {R : Fz} {avs : List AV} {ops : Array Oper} {o : Oper} {v : AV} : ∀ {n : Nat} {gs : List (List D × DSt)} {Gs : List AHeap}, OldR E R avs gs Gs →
    (∀ (RG : Fz) (T : List D) (S : DSt) (G : AHeap), (T, S) ∈ gs.take n → RG.le R → Conf E RG S G → RpL E RG T avs → ∀ d, valD P ops T S o = some d → Rp E RG d v) → OldR E R (putA avs o.dst v) (putOld P ops o n gs) Gs
  | 0, gs, Gs, h, _ => h.any (Fz.le_refl R)
  | n + 1, [], [], h, _ => trivial
  | n + 1, g :: gs, G :: Gs, ⟨⟨RG, a, b, c⟩, h⟩, hv => by
    refine ⟨⟨RG, a, b, rpL_put c o.dst ?_⟩, OldR.put h fun RG T S G hm => hv RG T S G (List.mem_cons_of_mem _ hm)⟩
    unfold orAny
    split
    · rename_i d hd
      exact hv RG g.1 g.2 G List.mem_cons_self a b c d hd
    · exact rp_any
  | _ + 1, [], _ :: _, h, _ => h.elim
  | _ + 1, _ :: _, [], h, _ => h.elim
theorem same_ok {R : Fz} {avs : List AV} {ops : Array Oper} {o : Oper} {v : AV} {S : DSt} {H : AHeap} (hC : Conf E R S H) (hv : valV P E ops avs H o = some v) : ∀ {n : Nat} {gs : List (List D × DSt)} {Gs : List AHeap}, OldR E R avs gs Gs → sameG P ops o S (gs.take n) → sameV P E ops avs o v (Gs.take n)
  | 0, gs, Gs, h, _ => by rw [List.take_zero]; trivial
  | n + 1, [], [], h, _ => trivial
  | n + 1, g :: gs, G :: Gs, ⟨⟨RG, a, b, c⟩, h⟩, hs => by
    obtain ⟨⟨h1, h2⟩, h3⟩ := hs
    refine ⟨?_, same_ok hC hv h h3⟩
    cases hd : valD P ops g.1 g.2 o with
    | none => exact (h1 hd).elim
    | some d =>
      obtain ⟨v', _, hall⟩ := valD_ok c b hd
      have e := hall H ⟨fun j cs e => let ⟨pre, g⟩ := hC.frozen j cs (a _ _ e); ⟨_, pre, g⟩, fun j o' hj hjS => by
        rw [← footOf_ok h2 hj] at hjS
        obtain ⟨_, ⟨pre, g⟩, _⟩ := hC.own j o' hjS
        exact ⟨_, pre, g⟩⟩
      rw [hv] at e
      cases e
      exact hall G (b.agr _)
  | _ + 1, [], _ :: _, h, _ => h.elim
  | _ + 1, _ :: _, [], h, _ => h.elim
/-- What the operations tell of the first n. -/
theorem same_rp {R : Fz} {avs : List AV} {ops : Array Oper} {o : Oper} {v : AV} {S : DSt} {H : AHeap} (hC : Conf E R S H) (hv : valV P E ops avs H o = some v) {gs : List (List D × DSt)} (hs : sameG P ops o S gs) {RG : Fz} {T : List D} {S' : DSt} {G : AHeap} (hm : (T, S') ∈ gs) (hle : RG.le R) (hG : Conf E RG S' G) (hT : RpL E RG T avs) {d : D} (hd : valD P ops T S' o = some d) : Rp E RG d v := by
  have hf : footOk T o S' S := by
    clear hG hT hd
    induction gs with
    | nil => cases hm
    | cons g gs ih =>
      rcases List.mem_cons.1 hm with e | hm
      · subst e; exact hs.1.2
      · exact ih hs.2 hm
  obtain ⟨v', h1, hall⟩ := valD_ok hT hG hd
  have e := hall H ⟨fun j cs e => let ⟨pre, g⟩ := hC.frozen j cs (hle _ _ e); ⟨_, pre, g⟩, fun j o' hj hjS => by
    rw [← footOf_ok hf hj] at hjS
    obtain ⟨_, ⟨pre, g⟩, _⟩ := hC.own j o' hjS
    exact ⟨_, pre, g⟩⟩
  rw [hv] at e
  cases e
  exact h1
theorem again_ok {ops : Array Oper} {R R' : Fz} (hle : R.le R') {S' : DSt} {H' : AHeap} (hC : Conf E R' S' H') {anc : Nat} : ∀ {xs : List DoneD} {ys : List Done} {j : Nat}, DsR P E ops R xs ys → againG S' anc j xs → againV P E ops H' anc j ys
  | [], [], j, _, _ => trivial
  | x :: xs, y :: ys, j, ⟨⟨e1, e2, e3, e4, e5, e6⟩, h⟩, ha => by
    simp only [againG] at ha
    simp only [againV]
    rw [← e4]
    split at ha
    · rename_i hc
      rw [if_pos hc]
      refine ⟨?_, again_ok hle hC h ha.2⟩
      simp only [Bool.and_eq_true, beq_iff_eq] at hc
      obtain ⟨_, Rd, g1, g2⟩ := e6 (e4 ▸ hc.1)
      exact g2 H' ⟨fun j cs e => let ⟨pre, g⟩ := hC.frozen j cs (hle _ _ (g1 _ _ e)); ⟨_, pre, g⟩, fun j o' hj hjS => by
        rw [← footOf_ok ha.1 hj] at hjS
        obtain ⟨_, ⟨pre, g⟩, _⟩ := hC.own j o' hjS
        exact ⟨_, pre, g⟩⟩
    · rename_i hc
      rw [if_neg hc]
      exact again_ok hle hC h ha
  | [], _ :: _, _, h, _ => h.elim
  | _ :: _, [], _, h, _ => h.elim
theorem DrawX_mono {ops : Array Oper} : ∀ {l : List Oper} {ds : List Done} {T : List AV} {H : AHeap} {older : List AHeap} {Q Q' : List AV → AHeap → Prop}, (∀ T H, Q T H → Q' T H) → DrawX P E w0 ops l ds T H older Q → DrawX P E w0 ops l ds T H older Q'
  | [], ds, T, H, older, Q, Q', hq, h => by simp only [DrawX, forceL_eq] at *; exact hq _ _ h
  | o :: l, ds, T, H, older, Q, Q', hq, h => by
    simp only [DrawX, forceL_eq, aliasK_eq] at *
    have ov : ∀ {r : Option AV} {f g : AV → Prop}, (∀ x, f x → g x) → optW r f → optW r g := by
      intro r f g hfg h
      cases r with
      | none => exact h
      | some x => exact hfg x h
    cases hanc : ancOf ds o.after.toList 0 with
    | none => rw [hanc] at h; exact h
    | some anc =>
      simp only [hanc] at h ⊢
      split at h
      · rename_i hap
        rw [if_pos hap]
        cases ha : aliasOf o with
        | some x => simp only [ha] at h ⊢; exact DrawX_mono hq h
        | none =>
          simp only [ha] at h ⊢
          rcases hk : kindOf P o with _ | _ | k
          · simp only [hk] at h ⊢; exact ov (fun v hv => DrawX_mono hq hv) h
          · simp only [hk] at h ⊢; exact ov (fun v hv => ⟨hv.1, DrawX_mono hq hv.2⟩) h
          · simp only [hk] at h ⊢
            split at h
            · rename_i hw
              rw [if_pos hw]
              exact StepV_mono fnX_good h fun v H' h' => ⟨h'.1, DrawX_mono hq h'.2⟩
            · exact h.elim
      · exact h.elim
theorem drawD_ok {ops : Array Oper} : ∀ {l : List Oper} {ds : List DoneD} {ys : List Done} {T : List D} {avs : List AV} {S : DSt} {H : AHeap} {older : List (List D × DSt)} {Gs : List AHeap} {R : Fz} {Q : List D → DSt → Prop}, Fine H → Conf E R S H → RpL E R T avs → OldR E R avs older Gs → DsR P E ops R ds ys →
    DrawD P (DF E (FnX P E w0)) ops l ds T S older Q → DrawX P E w0 ops l ys avs H Gs (PostL E R T.length Q)
  | [], ds, ys, T, avs, S, H, older, Gs, R, Q, F, hC, hT, hO, hD, h => by
    simp only [DrawD, forceD_eq] at h
    simp only [DrawX, forceL_eq]
    exact ⟨F, R, S, T, Fz.le_refl R, hC, hT, rfl, h⟩
  | o :: l, ds, ys, T, avs, S, H, older, Gs, R, Q, F, hC, hT, hO, hD, h => by
    simp only [DrawD, forceD_eq, aliasKD_eq] at h
    simp only [DrawX, forceL_eq, aliasK_eq]
    rw [hD.anc] at h
    have hlen := hO.length
    cases hanc : ancOf ys o.after.toList 0 with
    | none => rw [hanc] at h; exact h
    | some anc =>
      simp only [hanc] at h ⊢
      rw [hD.all (fun j x y e1 e2 => by rw [e1]) 0] at h
      split at h
      · rename_i hap
        rw [if_pos hap]
        have next : ∀ {d : D} {v : AV} {R' : Fz} {S' : DSt} {H' : AHeap} {ds' : List DoneD} {ys' : List Done} {older' : List (List D × DSt)} {Gs' : List AHeap}, R.le R' → Fine H' → Conf E R' S' H' → Rp E R' d v → OldR E R' (putA avs o.dst v) older' Gs' → DsR P E ops R' ds' ys' →
            DrawD P (DF E (FnX P E w0)) ops l ds' (putD T o.dst d) S' older' Q → DrawX P E w0 ops l ys' (putA avs o.dst v) H' Gs' (PostL E R T.length Q) := by
          intro d v R' S' H' ds' ys' older' Gs' hle F' hC' hd hO' hD' h'
          have := drawD_ok F' hC' (rpL_put (RpL.le hle _ _ hT) o.dst hd) hO' hD' h'
          rw [putD_length] at this
          exact DrawX_mono (fun _ _ => PostL.le hle) this
        have ent0 : ∀ {v : AV} {T' : List D} {S' : DSt}, EntR P E ops R ⟨⟨o, anc, [], undefA, older.length, 0, false, []⟩, T', S'⟩ ⟨o, anc, avs, v, Gs.length, 0, false, []⟩ := fun {v T' S'} => ⟨rfl, rfl, hlen, rfl, rfl, fun e => by cases e⟩
        cases hx : aliasOf o with
        | some x =>
          simp only [hx] at h ⊢
          obtain ⟨hk, hv⟩ := alias_kind (P := P) (E := E) hx
          refine next (Fz.le_refl R) F hC (rp_eval hT x) (hO.put fun RG T' S' G hm hle hG hT' d hd => ?_) (hD.snoc ent0) h
          obtain ⟨v', h1, h2⟩ := valD_ok hT' hG hd
          have := h2 G (hG.agr _)
          rw [hv] at this
          cases this
          exact h1
        | none =>
          simp only [hx] at h ⊢
          rcases hk : kindOf P o with _ | _ | k
          · simp only [hk] at h ⊢
            unfold optW at h
            split at h
            · rename_i d hd
              obtain ⟨v, h1, h2⟩ := valD_ok hT hC hd
              have hv := h2 H (hC.agr _)
              rw [hv]
              refine next (Fz.le_refl R) F hC h1 (hO.put fun RG T' S' G hm hle hG hT' d' hd' => ?_) (hD.snoc ent0) h
              obtain ⟨v', g1, g2⟩ := valD_ok hT' hG hd'
              have := valV_pure hk (g2 G (hG.agr _)) (H := H)
              rw [hv] at this
              cases this
              exact g1
            · exact h.elim
          · simp only [hk] at h ⊢
            unfold optW at h
            split at h
            · rename_i d hd
              obtain ⟨v, h1, h2⟩ := valD_ok hT hC hd
              have hv := h2 H (hC.agr _)
              rw [hv]
              obtain ⟨hs, h⟩ := h
              rw [hD.lo, hlen] at hs h
              refine ⟨same_ok hC hv hO hs, ?_⟩
              refine next (Fz.le_refl R) F hC h1 (hO.put fun RG T' S' G hm hle hG hT' d' hd' => ?_) (hD.snoc ?_) h
              · exact same_rp hC hv hs hm hle hG hT' hd'
              · exact ⟨rfl, rfl, rfl, rfl, rfl, fun _ => ⟨by simp only; omega, R, Fz.le_refl R, fun H' hA => h2 H' hA⟩⟩
            · exact h.elim
          · simp only [hk] at h ⊢
            rw [hD.all (fun j x y e1 e2 => by rw [e2]) 0] at h
            split at h
            · rename_i hw
              rw [if_pos hw]
              refine StepV_mono fnX_good (stepL_ok F hC hT h) ?_
              rintro v H' ⟨F', R', S', d, hle, hC', hd, ha, h'⟩
              refine ⟨again_ok hle hC' hD ha, ?_⟩
              refine next (older' := (putD T o.dst .any, S) :: putOld P ops o 0 older) hle F' hC' hd ⟨⟨R, hle, hC, rpL_put hT o.dst rp_any⟩, hO.any hle⟩ ((hD.le hle).snoc ?_) h'
              exact ⟨rfl, rfl, hlen, rfl, rfl, fun e => by cases e⟩
            · exact h.elim
      · exact h.elim
end
end Go.Am
end

section
namespace Go.Am
set_option linter.unusedVariables false
set_option linter.unusedSimpArgs false
def edgesOf (ops : Array Oper) : List (Nat × Nat) := (List.range ops.size).flatMap fun i => ((ops.getD i default).after.toList.filter fun e => Region.binds .any e).map fun e => (e.on, i)
def wrsOf (P : Program) (ops : Array Oper) : List Nat := (List.range ops.size).filter fun i => decide (2 ≤ kindOf P (ops.getD i default)) && (aliasOf (ops.getD i default)).isNone
def reachOf (es : List (Nat × Nat)) (j : Nat) : Nat → List Nat → Bool
  | 0, L => L.contains j
  | n + 1, L => L.contains j || reachOf es j n ((es.filter fun xy => L.contains xy.1 && !L.contains xy.2).map (·.2) ++ L)
def pairsOf : List Nat → List (Nat × Nat)
  | [] => []
  | i :: l => l.map (fun j => (i, j)) ++ pairsOf l
/-- Two writers that are ordered neither way. -/
def freePair (n : Nat) (es : List (Nat × Nat)) (ws : List Nat) : Option (Nat × Nat) :=
  (pairsOf ws).find? fun ij => (decide (ij.1 < n) && decide (ij.2 < n) && ij.1 != ij.2) && (!reachOf es ij.2 n [ij.1] && !reachOf es ij.1 n [ij.2])
def topoOf (n : Nat) (es : List (Nat × Nat)) : Nat → List Nat → List Nat
  | 0, done => done
  | f + 1, done => match (List.range n).find? fun i => !done.contains i && es.all fun xy => xy.2 != i || done.contains xy.1 with
    | some i => topoOf n es f (done ++ [i])
    | none => done
def arrsOf (n : Nat) (es : List (Nat × Nat)) (ws : List Nat) : Nat → List (Nat × Nat) → List (List Nat × List (Nat × Nat))
  | 0, ex => [(topoOf n (es ++ ex) n [], ex)]
  | f + 1, ex => match freePair n (es ++ ex) ws with
    | none => [(topoOf n (es ++ ex) n [], ex)]
    | some (i, j) => arrsOf n es ws f (ex ++ [(i, j)]) ++ arrsOf n es ws f (ex ++ [(j, i)])
def okArr (ops : Array Oper) (l : List (List Nat × List (Nat × Nat))) : Bool := guardsIn ops && backB ops && l.all fun oe => permB ops.size oe.1 oe.2
def allArr (P : Program) (G : DW) (ops : Array Oper) (T : List D) (S : DSt) (Q : List D → DSt → Prop) : List (List Nat × List (Nat × Nat)) → Prop
  | [] => True
  | oe :: l => DrawD P G (permOps ops oe.1 oe.2) (permOps ops oe.1 oe.2).toList [] T S [] Q ∧ allArr P G ops T S Q l
def ArrD (P : Program) (G : DW) (ops : Array Oper) (T : List D) (S : DSt) (Q : List D → DSt → Prop) (l : List (List Nat × List (Nat × Nat))) : Prop :=
  if okArr ops l then allArr P G ops T S Q l else False
/-- A region that draws its order. -/
def RegD (P : Program) (G : DW) (x : Bool) (ops : Array Oper) (T : List D) (S : DSt) (Q : List D → DSt → Prop) : Prop := match freePair ops.size (edgesOf ops) (wrsOf P ops) with
  | none => DrawD P G ops ops.toList [] T S [] Q
  | some _ => x = false ∧ ArrD P G ops T S Q (arrsOf ops.size (edgesOf ops) (wrsOf P ops) (ops.size * ops.size) [])
section
variable {P : Program} {E : Env} {w0 : World}
theorem arrs_cover {n : Nat} {es : List (Nat × Nat)} {ws : List Nat} {p : Nat → Nat} (hinj : ∀ i j, i < n → j < n → p i = p j → i = j) : ∀ (f : Nat) (ex : List (Nat × Nat)), (∀ xy ∈ ex, p xy.1 < p xy.2) → ∃ oe ∈ arrsOf n es ws f ex, ∀ xy ∈ oe.2, p xy.1 < p xy.2
  | 0, ex, h => ⟨_, List.mem_singleton.2 rfl, h⟩
  | f + 1, ex, h => by
    simp only [arrsOf]
    split
    · exact ⟨_, List.mem_singleton.2 rfl, h⟩
    · rename_i i j e
      unfold freePair at e
      have e := List.find?_some e
      simp only [Bool.and_eq_true, decide_eq_true_eq, bne_iff_ne, ne_eq] at e
      obtain ⟨⟨⟨hi, hj⟩, hn⟩, _⟩ := e
      have : ¬ p i = p j := fun e => hn (hinj i j hi hj e)
      rcases Nat.lt_or_ge (p i) (p j) with hl | hl
      · obtain ⟨oe, h1, h2⟩ := arrs_cover hinj f (ex ++ [(i, j)]) (by
          intro xy hxy
          rcases List.mem_append.1 hxy with hxy | hxy
          · exact h xy hxy
          · rw [List.mem_singleton.1 hxy]; exact hl)
        exact ⟨oe, List.mem_append_left _ h1, h2⟩
      · obtain ⟨oe, h1, h2⟩ := arrs_cover hinj f (ex ++ [(j, i)]) (by
          intro xy hxy
          rcases List.mem_append.1 hxy with hxy | hxy
          · exact h xy hxy
          · rw [List.mem_singleton.1 hxy]; show p j < p i; omega)
        exact ⟨oe, List.mem_append_right _ h1, h2⟩
theorem allArr_mem {G : DW} {ops : Array Oper} {T : List D} {S : DSt} {Q : List D → DSt → Prop} : ∀ {l : List (List Nat × List (Nat × Nat))}, allArr P G ops T S Q l → ∀ oe ∈ l, DrawD P G (permOps ops oe.1 oe.2) (permOps ops oe.1 oe.2).toList [] T S [] Q
  | [], _, _, h => by cases h
  | _ :: l, h, oe, hm => by
    rcases List.mem_cons.1 hm with e | hm
    · subst e; exact h.1
    · exact allArr_mem h.2 oe hm
theorem arrD_ok (hm : P.follows .mixedOrders = true) {id : Nat} {ops : Array Oper} {T : List D} {avs : List AV} {S : DSt} {H : AHeap} {R : Fz} {Q : AExit → List D → DSt → Prop} (F : Fine H) (hC : Conf E R S H) (hT : RpL E R T avs)
    (h : ArrD P (DF E (FnX P E w0)) ops T S (Q .normal) (arrsOf ops.size (edgesOf ops) (wrsOf P ops) (ops.size * ops.size) [])) : CodeW P E w0 (.region id ops true) avs H (fun ex avs' H' => PostL E R T.length (Q ex) avs' H') := by
  unfold ArrD at h
  split at h
  · rename_i hok
    unfold okArr at hok
    simp only [Bool.and_eq_true] at hok
    refine codeW_arr hm _ hok.1.1 hok.1.2 hok.2 (fun p _ hinj => arrs_cover hinj _ _ (fun xy hx => by cases hx)) fun oe hoe => ?_
    exact drawD_ok (ds := []) (ys := []) (older := []) (Gs := []) F hC hT trivial trivial (allArr_mem h oe hoe)
  · exact h.elim
end
end Go.Am
end
