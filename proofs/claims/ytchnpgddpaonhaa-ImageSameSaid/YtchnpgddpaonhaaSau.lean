/-
  Texts Di Fn Dj Pa Dk Ca Cb Cd Ce Cf Ci Dm, as far as they are used.
-/
import Derived.Test.YtchnpgddpaonhaaSat
import Derived.Test.YtchnpgddpaonhaaRows
import Derived.KernelRfl
section
namespace Go.Am
set_option linter.unusedVariables false
set_option linter.unusedSimpArgs false
section
variable (P : Program) (E : Env) (w0 : World) (x : Bool)
def FnF : FW := match x with
  | true => FnX P E w0
  | false => FnW P E w0
def CodeF (c : Code) (T : List AV) (H : AHeap) (Q : AExit → List AV → AHeap → Prop) : Prop := match x with
  | true => CodeX P E w0 c T H Q
  | false => CodeW P E w0 c T H Q
/-- A call, at the plain level. -/
abbrev DFn := DF E (FnF P E w0 x)
def PostC (E : Env) (R : Fz) (n : Nat) (Q : AExit → List D → DSt → Prop) (ex : AExit) (avs' : List AV) (H' : AHeap) : Prop := PostL E R n (Q ex) avs' H'
/-- A piece of code, at the plain level. -/
def CodeD (c : Code) (T : List D) (S : DSt) (Q : AExit → List D → DSt → Prop) : Prop :=
  ∀ R H avs, Fine H → Conf E R S H → RpL E R T avs → CodeF P E w0 x c avs H (PostC E R T.length Q)
end
def setAll : List D → List Nat → List D → List D
  | T, i :: L, v :: vs => setAll (T.set i v) L vs
  | T, _, _ => T
/-- A row of which some entries are told. -/
def mkRow (n : Nat) (L : List Nat) (vs : List D) : List D := setAll (List.replicate n .any) L vs
def liveOf (T : List D) : List Nat → List D
  | [] => []
  | i :: L => T.getD i undefD :: liveOf T L
def condD (c : D) (a b : Prop) : Prop := match c with
  | .bool true => a
  | .bool false => b
  | _ => False
def blockD (id : Nat) (Q : AExit → List D → DSt → Prop) : AExit → List D → DSt → Prop
  | .exit id', T, S => if id' = id then Q .normal T S else Q (.exit id') T S
  | e, T, S => Q e T S
def findL (k : Nat) : List (Nat × List Nat) → Option (List Nat)
  | [] => none
  | (i, L) :: l => if i = k then some L else findL k l
/-- A number for a code, by what it begins with. -/
def hdD : Code → Option Nat
  | .region id _ _ => some (2 * id)
  | .seq a b => match hdD a with
    | some k => some k
    | none => hdD b
  | .cond _ a b => match hdD a with
    | some k => some (2 * k + 1)
    | none => match hdD b with
      | some k => some (2 * k + 1)
      | none => none
  | .block _ c | .loop c => hdD c
  | _ => none
def cutL (cuts : List (Nat × List Nat)) (c : Code) : Option (List Nat) := match hdD c with
  | some id => findL id cuts
  | none => none
section
variable (P : Program) (E : Env) (w0 : World) (x : Bool) (loops cuts : List (Nat × List Nat))
def vcD : Code → List D → DSt → (AExit → List D → DSt → Prop) → Prop
  | .skip, T, S, Q => Q .normal T S
  | .label _, T, S, Q => Q .normal T S
  | .ret, T, S, Q => Q .ret T S
  | .exit id, T, S, Q => Q (.exit id) T S
  | .region _ ops draw, T, S, Q => match draw with
    | false => OpsD P (DF E (FnF P E w0 x)) ops ops.toList T S (Q .normal)
    | true => RegD P (DF E (FnX P E w0)) x ops T S (Q .normal)
  | .seq a b, T, S, Q => match cutL cuts b with
    | some L => vcD a T S fun ex T' S' => match ex with
      | .normal => CodeD P E w0 x b (mkRow T.length L (liveOf T' L)) S' Q
      | e => Q e T' S'
    | none => vcD a T S fun ex T' S' => match ex with
      | .normal => vcD b T' S' Q
      | e => Q e T' S'
  | .cond c a b, T, S, Q => condD (dEval T c) (vcD a T S Q) (vcD b T S Q)
  | .block id c, T, S, Q => vcD c T S (blockD id Q)
  | .loop c, T, S, Q => match cutL loops c with
    | some L => CodeD P E w0 x (.loop c) (mkRow T.length L (liveOf T L)) S Q
    | none => CodeD P E w0 x (.loop c) T S Q
  | _, _, _, _ => False
end
section
variable (P : Program) (E : Env) (w0 : World) (x : Bool) (loops cuts : List (Nat × List Nat))
def seqD (b : Code) (Q : AExit → List D → DSt → Prop) (ex : AExit) (T : List D) (S : DSt) : Prop := match ex with
  | .normal => vcD P E w0 x loops cuts b T S Q
  | e => Q e T S
end
def loopKD (N : List D → DSt → Prop) (Q : AExit → List D → DSt → Prop) (ex : AExit) (T : List D) (S : DSt) : Prop := match ex with
  | .normal => N T S
  | e => Q e T S
def resultD (P : Program) (S : DSt) (T : List D) : List ResultVar → (List D → Prop) → Prop
  | [], K => K []
  | .tmp t :: l, K => resultD P S T l fun vs => K (T.getD t undefD :: vs)
  | .cell a t :: l, K => optW (loadD P S t (T.getD a undefD)) fun v => resultD P S T l fun vs => K (v :: vs)
def packD : List D → D
  | [v] => v
  | vs => .tup vs
def retD (P : Program) (fn : Func) (Q : D → DSt → Prop) : AExit → List D → DSt → Prop
  | .exit _, _, _ => False
  | _, T, S => resultD P S T fn.results.toList fun vs => Q (packD vs) S
/-- An end, seen from without: what is no longer needed is left away, what is no longer turned is told by what it holds. -/
def FinD (E : Env) (Q : D → DSt → Prop) (d : D) (S : DSt) : Prop :=
  ∀ R H v, Conf E R S H → Rp E R d v → ∃ R' S' d', R.le R' ∧ Conf E R' S' H ∧ Rp E R' d' v ∧ Q d' S'
section
variable {P : Program} {E : Env} {w0 : World} {x : Bool}
theorem CodeF.mono {c : Code} {T : List AV} {H : AHeap} {Q Q' : AExit → List AV → AHeap → Prop} (h : CodeF P E w0 x c T H Q) (hq : ∀ ex T' H', Q ex T' H' → Q' ex T' H') : CodeF P E w0 x c T H Q' := by
  cases x
  · exact CodeW.mono h hq
  · exact CodeX.mono h hq
theorem fnF_good : GoodF (FnF P E w0 x) := by
  cases x
  · exact fnW_good
  · exact fnX_good
theorem codeF_end {c : Code} {T : List AV} {H : AHeap} {Q : AExit → List AV → AHeap → Prop} {ex : AExit} (hq : Q ex T H) (h : ∀ Q', Q' ex T H → CodeW P E w0 c T H Q') : CodeF P E w0 x c T H Q := by
  cases x
  · exact h Q hq
  · exact codeX_end hq h
theorem codeF_seq {a b : Code} {T : List AV} {H : AHeap} {Q : AExit → List AV → AHeap → Prop}
    (h : CodeF P E w0 x a T H fun ex T' H' => match ex with | .normal => CodeF P E w0 x b T' H' Q | e => Q e T' H') : CodeF P E w0 x (.seq a b) T H Q := by
  cases x
  · exact codeW_seq (CodeW.mono h fun ex T' H' hq => by cases ex <;> exact hq)
  · exact codeX_seq (CodeX.mono h fun ex T' H' hq => by cases ex <;> exact hq)
theorem codeF_block {id : Nat} {c : Code} {T : List AV} {H : AHeap} {Q : AExit → List AV → AHeap → Prop} (h : CodeF P E w0 x c T H (blockQ id Q)) : CodeF P E w0 x (.block id c) T H Q := by
  cases x
  · exact codeW_block h
  · exact codeX_block h
theorem codeF_cond {c : Operand} {a b : Code} {T : List AV} {H : AHeap} {Q : AExit → List AV → AHeap → Prop} {t : Bool} (hc : aEval T c = .bool t) (h : CodeF P E w0 x (if t then a else b) T H Q) : CodeF P E w0 x (.cond c a b) T H Q := by
  have key : ∀ {Q : AExit → List AV → AHeap → Prop}, CodeW P E w0 (if t then a else b) T H Q → CodeW P E w0 (.cond c a b) T H Q := fun h => codeW_cond (by
    rw [hc]
    cases t <;> exact h)
  cases x
  · exact key h
  · intro hr
    obtain ⟨ex, T', H', h1, h2⟩ := h hr
    exact ⟨ex, T', H', key h1, h2⟩
theorem codeF_loop {c : Code} {Q : AExit → List AV → AHeap → Prop} {I : Nat → List AV → AHeap → Prop}
    (step : ∀ n T H, I n T H → CodeF P E w0 x c T H fun ex T' H' => match ex with | .normal => ∃ m, m < n ∧ I m T' H' | e => Q e T' H')
    {n : Nat} {T : List AV} {H : AHeap} (h : I n T H) : CodeF P E w0 x (.loop c) T H Q := by
  cases x
  · exact codeW_loop (fun n T H hI => CodeW.mono (step n T H hI) fun ex T' H' hq => by cases ex <;> exact hq) h
  · exact codeX_loop (fun n T H hI => CodeX.mono (step n T H hI) fun ex T' H' hq => by cases ex <;> exact hq) h
theorem CodeD.mono {c : Code} {T : List D} {S : DSt} {Q Q' : AExit → List D → DSt → Prop} (h : CodeD P E w0 x c T S Q) (hq : ∀ ex T' S', T'.length = T.length → Q ex T' S' → Q' ex T' S') : CodeD P E w0 x c T S Q' := fun R H avs F hC hT =>
  (h R H avs F hC hT).mono fun ex T' H' ⟨F', R', S', T1, a, b, c, d, e⟩ => ⟨F', R', S', T1, a, b, c, d, hq _ _ _ d e⟩
theorem DF.mono {F : FW} (hF : GoodF F) {f : FuncId} {ds : List D} {S : DSt} {Q Q' : D → DSt → Prop} (h : DF E F f ds S Q) (hq : ∀ d S', Q d S' → Q' d S') : DF E F f ds S Q' := fun R H avs hFi hC ha =>
  hF _ _ _ _ _ (h R H avs hFi hC ha) fun v H' ⟨F', R', S', d, a, b, c, e⟩ => ⟨F', R', S', d, a, b, c, hq _ _ e⟩
/-- A contract that is used. -/
theorem DFn.use {f : FuncId} {ds : List D} {S : DSt} {Q Q' : D → DSt → Prop} (h : DFn P E w0 x f ds S Q) (hq : ∀ d S', Q d S' → Q' d S') : DFn P E w0 x f ds S Q' := DF.mono fnF_good h hq
theorem DFn.toX {f : FuncId} {ds : List D} {S : DSt} {Q Q' : D → DSt → Prop} (h : DFn P E w0 true f ds S Q) (hq : ∀ d S', Q d S' → Q' d S') : DF E (FnX P E w0) f ds S Q' := DF.mono fnX_good h hq
theorem DFn.any {f : FuncId} {ds : List D} {S : DSt} {Q : D → DSt → Prop} (h : DFn P E w0 true f ds S Q) : DFn P E w0 x f ds S Q := by
  cases x
  · exact fun R H avs hFi hC ha => (h R H avs hFi hC ha).toW
  · exact h
theorem setAll_length : ∀ (T : List D) (L : List Nat) (vs : List D), (setAll T L vs).length = T.length
  | T, i :: L, v :: vs => by rw [setAll, setAll_length, List.length_set]
  | T, [], _ => by simp [setAll]
  | T, _ :: _, [] => by simp [setAll]
theorem mkRow_length (n : Nat) (L : List Nat) (vs : List D) : (mkRow n L vs).length = n := by rw [mkRow, setAll_length, List.length_replicate]
theorem rpL_any {R : Fz} : ∀ {avs : List AV}, RpL E R (List.replicate avs.length .any) avs
  | [] => rpL_nil
  | v :: avs => rpL_cons rp_any rpL_any
theorem rpL_row {R : Fz} {T : List D} {avs : List AV} (h : RpL E R T avs) (L : List Nat) : RpL E R (mkRow T.length L (liveOf T L)) avs := by
  have main : ∀ (L : List Nat) (T0 : List D), T0.length = T.length → RpL E R T0 avs → RpL E R (setAll T0 L (liveOf T L)) avs := by
    intro L
    induction L with
    | nil => intro T0 hl h0; simpa [setAll, liveOf] using h0
    | cons i L ih =>
      intro T0 hl h0
      simp only [liveOf, setAll]
      refine ih _ (by rw [List.length_set, hl]) ?_
      by_cases hi : i < T.length
      · have hlen := h.length
        have := h0.set i (rpL_getD h i)
        rw [List.getD_eq_getElem?_getD (l := avs), List.getElem?_eq_getElem (by omega), Option.getD_some, List.set_getElem_self] at this
        exact this
      · rw [List.set_eq_of_length_le (by omega)]
        exact h0
  refine main L _ (by rw [List.length_replicate]) ?_
  rw [← h.length]
  exact rpL_any
theorem codeD_row {c : Code} {T : List D} {S : DSt} {Q : AExit → List D → DSt → Prop} {n : Nat} (L : List Nat) (hn : T.length = n) (h : CodeD P E w0 x c (mkRow n L (liveOf T L)) S Q) : CodeD P E w0 x c T S Q := fun R H avs F hC hT => by
  have := h R H avs F hC (by rw [← hn]; exact rpL_row hT L)
  rw [mkRow_length, ← hn] at this
  exact this
/-- LOOPS: an invariant with a number that falls. -/
theorem codeD_loop {c : Code} {Q : AExit → List D → DSt → Prop} {I : Nat → List D → DSt → Prop} {k : Nat}
    (step : ∀ n T S, T.length = k → I n T S → CodeD P E w0 x c T S fun ex T' S' => match ex with | .normal => ∃ m, m < n ∧ I m T' S' | e => Q e T' S')
    {n : Nat} {T : List D} {S : DSt} (hk : T.length = k) (h : I n T S) : CodeD P E w0 x (.loop c) T S Q := fun R H avs F hC hT => by
  refine codeF_loop (I := fun n avs H => PostL E R k (I n) avs H) (fun n avs H hI => ?_) (n := n) ⟨F, R, S, T, Fz.le_refl R, hC, hT, hk, h⟩
  obtain ⟨F1, R1, S1, T1, a, b, c1, d, e⟩ := hI
  refine (step n T1 S1 d e R1 H avs F1 b c1).mono fun ex T' H' hq => ?_
  cases ex with
  | normal =>
    obtain ⟨F2, R2, S2, T2, a2, b2, c2, d2, m, hm, e2⟩ := hq
    exact ⟨m, hm, F2, R2, S2, T2, Fz.le_trans a a2, b2, c2, by rw [d2, d], e2⟩
  | exit id =>
    obtain ⟨F2, R2, S2, T2, a2, b2, c2, d2, e2⟩ := hq
    exact ⟨F2, R2, S2, T2, Fz.le_trans a a2, b2, c2, by rw [d2, d, hk], e2⟩
  | ret =>
    obtain ⟨F2, R2, S2, T2, a2, b2, c2, d2, e2⟩ := hq
    exact ⟨F2, R2, S2, T2, Fz.le_trans a a2, b2, c2, by rw [d2, d, hk], e2⟩
theorem codeF_ops {id : Nat} {ops : Array Oper} {T : List D} {S : DSt} {Q : AExit → List D → DSt → Prop} (h : OpsD P (DF E (FnF P E w0 x)) ops ops.toList T S (Q .normal)) : CodeD P E w0 x (.region id ops false) T S Q := fun R H avs F hC hT => by
  cases x
  · exact codeW_region (opsV_ok (opsD_W F hC hT h))
  · intro hr
    obtain ⟨T', H', h1, h2⟩ := opsX_ok (opsD_X F hC hT h) hr
    exact ⟨.normal, T', H', codeW_region (by simpa using h1), h2⟩
theorem codeF_draw (hm : P.follows .mixedOrders = true) {id : Nat} {ops : Array Oper} {T : List D} {S : DSt} {Q : AExit → List D → DSt → Prop} (h : DrawD P (DF E (FnX P E w0)) ops ops.toList [] T S [] (Q .normal)) : CodeD P E w0 x (.region id ops true) T S Q := fun R H avs F hC hT => by
  have hd := drawD_ok (ds := []) (ys := []) (older := []) (Gs := []) F hC hT trivial trivial h
  have hX : CodeX P E w0 (.region id ops true) avs H (PostC E R T.length Q) := fun hr => by
    obtain ⟨T', H', h1, h2⟩ := drawW_one (drawX_ok (fun d hd => by cases hd) hd hr)
    exact ⟨.normal, T', H', codeW_draw hm (by simpa using h1), h2⟩
  cases x
  · exact hX.toW
  · exact hX
variable {loops cuts : List (Nat × List Nat)}
theorem vcD_ok (hm : P.follows .mixedOrders = true) : ∀ (c : Code) (T : List D) (S : DSt) (Q : AExit → List D → DSt → Prop), vcD P E w0 x loops cuts c T S Q → CodeD P E w0 x c T S Q
  | .skip, T, S, Q, h => fun R H avs F hC hT => codeF_end ⟨F, R, S, T, Fz.le_refl R, hC, hT, rfl, h⟩ fun _ => codeW_skip
  | .label _, T, S, Q, h => fun R H avs F hC hT => codeF_end ⟨F, R, S, T, Fz.le_refl R, hC, hT, rfl, h⟩ fun _ => codeW_label
  | .ret, T, S, Q, h => fun R H avs F hC hT => codeF_end ⟨F, R, S, T, Fz.le_refl R, hC, hT, rfl, h⟩ fun _ => codeW_ret
  | .exit id, T, S, Q, h => fun R H avs F hC hT => codeF_end ⟨F, R, S, T, Fz.le_refl R, hC, hT, rfl, h⟩ fun _ => codeW_exit
  | .region _ ops false, T, S, Q, h => codeF_ops h
  | .region _ ops true, T, S, Q, h => by
    change RegD P (DF E (FnX P E w0)) x ops T S (Q .normal) at h
    unfold RegD at h
    split at h
    · exact codeF_draw hm h
    · obtain ⟨rfl, h⟩ := h
      exact fun R H avs F hC hT => arrD_ok hm F hC hT h
  | .seq a b, T, S, Q, h => fun R H avs F hC hT => by
    simp only [vcD] at h
    have fin : CodeD P E w0 x a T S (fun ex T' S' => match ex with | .normal => CodeD P E w0 x b T' S' Q | e => Q e T' S') → CodeF P E w0 x (.seq a b) avs H (PostC E R T.length Q) := by
      intro h
      refine codeF_seq ((h R H avs F hC hT).mono fun ex T' H' hq => ?_)
      cases ex with
      | normal =>
        obtain ⟨F2, R2, S2, T2, a2, b2, c2, d2, e2⟩ := hq
        have := e2 R2 H' T' F2 b2 c2
        rw [d2] at this
        exact this.mono fun ex T' H' hq => PostL.le a2 hq
      | exit id => exact hq
      | ret => exact hq
    split at h
    · rename_i L hL
      refine fin ((vcD_ok hm a T S _ h).mono fun ex T' S' hl hq => ?_)
      cases ex with
      | normal => exact codeD_row L hl hq
      | exit id => exact hq
      | ret => exact hq
    · refine fin ((vcD_ok hm a T S _ h).mono fun ex T' S' hl hq => ?_)
      cases ex with
      | normal => exact vcD_ok hm b T' S' Q hq
      | exit id => exact hq
      | ret => exact hq
  | .cond c a b, T, S, Q, h => fun R H avs F hC hT => by
    simp only [vcD] at h
    have hr := rp_eval hT c
    unfold condD at h
    split at h
    · rename_i e
      rw [e] at hr
      simp only [Rp] at hr
      exact codeF_cond hr (vcD_ok hm a T S Q h R H avs F hC hT)
    · rename_i e
      rw [e] at hr
      simp only [Rp] at hr
      exact codeF_cond hr (vcD_ok hm b T S Q h R H avs F hC hT)
    · exact h.elim
  | .block id c, T, S, Q, h => fun R H avs F hC hT => by
    refine codeF_block ((vcD_ok hm c T S _ h R H avs F hC hT).mono fun ex T' H' hq => ?_)
    cases ex with
    | normal => exact hq
    | ret => exact hq
    | exit id' =>
      obtain ⟨F2, R2, S2, T2, a2, b2, c2, d2, e2⟩ := hq
      simp only [blockD] at e2
      simp only [blockQ]
      split at e2
      · rename_i e; rw [if_pos e]; exact ⟨F2, R2, S2, T2, a2, b2, c2, d2, e2⟩
      · rename_i e; rw [if_neg e]; exact ⟨F2, R2, S2, T2, a2, b2, c2, d2, e2⟩
  | .loop c, T, S, Q, h => by
    simp only [vcD] at h
    split at h
    · rename_i L hL; exact codeD_row L rfl h
    · exact h
  | .rangeFunc .., T, S, Q, h => h.elim
  | .scope .., T, S, Q, h => h.elim
  | .goto .., T, S, Q, h => h.elim
  | .refuse .., T, S, Q, h => h.elim
theorem resultD_ok {R : Fz} {S : DSt} {H : AHeap} {T : List D} {avs : List AV} (hC : Conf E R S H) (hT : RpL E R T avs) : ∀ {l : List ResultVar} {K : List D → Prop} {K' : List AV → Prop}, (∀ ds vs, RpL E R ds vs → K ds → K' vs) → resultD P S T l K → resultW P E H avs l K'
  | [], K, K', hk, h => hk [] [] rpL_nil h
  | .tmp t :: l, K, K', hk, h => by
    have := resultD_ok (l := l) (K' := fun vs => K' (avs.getD t undefA :: vs)) hC hT (fun ds vs hr hK => hk (T.getD t undefD :: ds) (avs.getD t undefA :: vs) (rpL_cons (rpL_getD hT t) hr) hK) h
    exact this
  | .cell a t :: l, K, K', hk, h => by
    simp only [resultD] at h
    unfold optW at h
    split at h
    · rename_i d hd
      have ha := rpL_getD hT a
      obtain ⟨v, h1, h2⟩ := load_ok hC ha hd
      have h2 := h2 H (hC.agr _)
      have := resultD_ok (l := l) (K' := fun vs => K' (v :: vs)) hC hT (fun ds vs hr hK => hk (d :: ds) (v :: vs) (rpL_cons h1 hr) hK) h
      simp only [resultW]
      unfold loadV at h2
      split at h2
      · rename_i o i e
        simp only [e, h2, optW_some]
        exact this
      · cases h2
    · exact h.elim
theorem rp_pack {R : Fz} {ds : List D} {vs : List AV} (h : RpL E R ds vs) : Rp E R (packD ds) (packA vs) := by
  rcases ds with _ | ⟨d, _ | ⟨d', ds⟩⟩
  · simp only [RpL] at h; subst h; exact rp_undef
  · simp only [RpL] at h
    obtain ⟨v, _, rfl, h1, rfl⟩ := h
    exact h1
  · have h' := h
    simp only [RpL] at h
    obtain ⟨v, _, rfl, h1, v2, vs', rfl, h2, h3⟩ := h
    show Rp E R (.tup (d :: d' :: ds)) (.tup (v :: v2 :: vs'))
    simp only [Rp]
    exact ⟨_, rfl, h'⟩
/-- A CALL, by its body. -/
theorem fnD_of_code {f : FuncId} {fn : Func} {c : Code} (hfn : P.funcs[f]? = some fn) (hb : fn.body = some c) {ds : List D} {S : DSt} {Q : D → DSt → Prop}
    (h : CodeD P E w0 x c (ds ++ List.replicate (fn.ntmps - ds.length) undefD) S (retD P fn (FinD E Q))) : DFn P E w0 x f ds S Q := fun R H avs F hC ha => by
  have hrow : RpL E R (ds ++ List.replicate (fn.ntmps - ds.length) undefD) (avs ++ List.replicate (fn.ntmps - avs.length) undefA) := by
    refine ha.append ?_
    rw [ha.length]
    generalize fn.ntmps - ds.length = m
    induction m with
    | zero => exact rpL_nil
    | succ m ih => exact rpL_cons rp_undef ih
  have h' : CodeF P E w0 x c (avs ++ List.replicate (fn.ntmps - avs.length) undefA) H (retQ P E fn (PostD E R Q)) := by
    refine (h R H _ F hC hrow).mono fun ex T' H' hq => ?_
    obtain ⟨F2, R2, S2, T2, a2, b2, c2, d2, e2⟩ := hq
    have go : ∀ {l : List ResultVar}, resultD P S2 T2 l (fun vs => FinD E Q (packD vs) S2) → resultW P E H' T' l fun vs => PostD E R Q (packA vs) H' := fun h => resultD_ok b2 c2 (fun ds vs hr hK => by
      obtain ⟨R', S', d', k1, k2, k3, k4⟩ := hK R2 H' _ b2 (rp_pack hr)
      exact ⟨F2, R', S', d', Fz.le_trans a2 k1, k2, k3, k4⟩) h
    cases ex with
    | normal => exact go e2
    | ret => exact go e2
    | exit id => exact e2
  cases x
  · exact fnW_of_code hfn hb h'
  · exact fnX_of_code hfn hb h'
theorem fnD_of_vc (loops cuts : List (Nat × List Nat)) (hm : P.follows .mixedOrders = true) {f : FuncId} {fn : Func} {c : Code} (hfn : P.funcs[f]? = some fn) (hb : fn.body = some c) {ds : List D} {S : DSt} {Q : D → DSt → Prop} {V : Prop}
    (e : vcD P E w0 x loops cuts c (ds ++ List.replicate (fn.ntmps - ds.length) undefD) S (retD P fn (FinD E Q)) = V) (h : V) : DFn P E w0 x f ds S Q :=
  fnD_of_code hfn hb (vcD_ok hm _ _ _ _ (e ▸ h))
theorem codeD_of_vc (loops cuts : List (Nat × List Nat)) (hm : P.follows .mixedOrders = true) {c : Code} {T : List D} {S : DSt} {Q : AExit → List D → DSt → Prop} {V : Prop} (e : vcD P E w0 x loops cuts c T S Q = V) (h : V) : CodeD P E w0 x c T S Q :=
  vcD_ok hm _ _ _ _ (e ▸ h)
theorem FinD.here {Q : D → DSt → Prop} {d : D} {S : DSt} (h : Q d S) : FinD E Q d S := fun R H v hC hd => ⟨R, S, d, Fz.le_refl R, hC, hd, h⟩
theorem FinD.less {Q : D → DSt → Prop} {d : D} {S S' : DSt} (hs : S'.le S) (h : FinD E Q d S') : FinD E Q d S := fun R H v hC hd => h R H v (hC.less hs) hd
theorem FinD.mono {Q Q' : D → DSt → Prop} {d : D} {S : DSt} (h : FinD E Q d S) (hq : ∀ d S, Q d S → Q' d S) : FinD E Q' d S := fun R H v hC hd => by
  obtain ⟨R', S', d', a, b, c, e⟩ := h R H v hC hd
  exact ⟨R', S', d', a, b, c, hq _ _ e⟩
/-- What is turned no more is told by its rows. -/
theorem rp_frozen {R : Fz} {S : DSt} {H : AHeap} (hC : Conf E R S H) {k : Nat} {o : DObj} (hk : S k = some o) {i len cap : Nat} {ex : Bool} {sz : Nat} {v : AV} (hv : Rp E R (.raw k i len cap ex sz) v) (hsz : o.sz = sz) (hl : i + len ≤ o.rows.length) (hc : len ≤ cap) :
    Rp E (fun j => if j = k then some o.acs else R j) (.lst ((o.rows.drop i).take len) sz) v := by
  obtain ⟨h1, ⟨pre, h2⟩, h3, h4, h5⟩ := hC.own k o hk
  obtain ⟨_, hle⟩ := hC.freeze hk
  simp only [Rp] at hv
  subst hv
  rw [hsz] at h4
  have hlen : ((o.rows.drop i).take len).length = len := by rw [List.length_take, List.length_drop]; omega
  have hd : ∀ row ∈ o.rows.drop i, row.length = sz := fun row hr => h4 row (List.mem_of_mem_drop hr)
  simp only [Rp]
  refine .inr ⟨.new k, i * sz, cap, ex, sz, by rw [hlen], rfl, by rw [hlen]; exact hc, fun row hr => hd row (List.mem_of_mem_take hr), .inr ⟨o.acs, ?_, ?_, all_take (all_drop h3 _) _⟩⟩
  · show (if k = k then some o.acs else R k) = some o.acs
    rw [if_pos rfl]
  · rw [hlen, rpLL_iff, ← flat_take hd, ← flat_drop h4]
    exact RpL.le hle _ _ ((h5.drop _).take _)
theorem FinD.freeze {Q : D → DSt → Prop} {S : DSt} {k : Nat} {o : DObj} (hk : S k = some o) {i len cap : Nat} {ex : Bool} {sz : Nat} (hsz : o.sz = sz) (hl : i + len ≤ o.rows.length) (hc : len ≤ cap)
    (h : FinD E Q (.lst ((o.rows.drop i).take len) sz) (S.erase k)) : FinD E Q (.raw k i len cap ex sz) S := fun R H v hC hd => by
  obtain ⟨h1, h2⟩ := hC.freeze hk
  obtain ⟨R', S', d', a, b, c, e⟩ := h _ H v h1 (rp_frozen hC hk hd hsz hl hc)
  exact ⟨R', S', d', Fz.le_trans h2 a, b, c, e⟩
/-- No slice is an empty one. -/
theorem FinD.nil {Q : D → DSt → Prop} {S : DSt} {sz : Nat} (h : FinD E Q (.lst [] sz) S) : FinD E Q .nilSlc S := fun R H v hC hd => h R H v hC (by simp only [Rp] at hd ⊢; exact .inl ⟨trivial, hd⟩)
/-- A function that turns nothing of its caller's: its answer. -/
def Pure (P : Program) (E : Env) (w0 : World) (f : FuncId) (ds : List D) (d : D) : Prop := ∀ x S, DFn P E w0 x f ds S fun d' S' => d' = d ∧ S' = S
theorem Pure.use {f : FuncId} {ds : List D} {d : D} (h : Pure P E w0 f ds d) {S : DSt} {K : D → DSt → Prop} (hk : K d S) : DFn P E w0 x f ds S K := (h x S).use fun d' S' ⟨a, b⟩ => by subst a b; exact hk
theorem Pure.useX {f : FuncId} {ds : List D} {d : D} (h : Pure P E w0 f ds d) {S : DSt} {K : D → DSt → Prop} (hk : K d S) : DF E (FnX P E w0) f ds S K := (h true S).toX fun d' S' ⟨a, b⟩ => by subst a b; exact hk
end
end Go.Am
end

section
open Go.Proofs Go Go.Am
namespace Go.Proofs.Ytchnpgddpaonhaa.d
set_option linter.unusedVariables false
set_option maxRecDepth 100000
theorem mixed : Try.prog.follows .mixedOrders = true := by kernel_rfl
abbrev t_api_Field : TypeId := 48
abbrev f_law13_ImageSame : FuncId := 4
abbrev f_kit_Bulk : FuncId := 9
abbrev f_law13_works : FuncId := 10
abbrev f_kit_SameModule : FuncId := 12
abbrev f_image_Same : FuncId := 13
abbrev f_kit_LentModule : FuncId := 14
abbrev f_kit_SameType : FuncId := 27
abbrev f_kit_SameRoutine : FuncId := 28
abbrev f_image_Same_1 : FuncId := 29
abbrev f_slices_Equal_api_Field : FuncId := 30
abbrev f_image_Same_2 : FuncId := 31
abbrev f_slices_Equal_int : FuncId := 32
abbrev f_bytes_Equal : FuncId := 33
abbrev f_slices_EqualFunc_api_Type : FuncId := 34
abbrev f_slices_Equal_string : FuncId := 35
abbrev f_slices_EqualFunc_api_Routine : FuncId := 36
abbrev f_kit_LentInts : FuncId := 37
abbrev f_kit_LentCode : FuncId := 38
abbrev f_kit_SameFields : FuncId := 54
abbrev f_kit_SameInts : FuncId := 55
abbrev f_ops_between_1 : FuncId := 92
abbrev f_ops_fits_1 : FuncId := 93
end Go.Proofs.Ytchnpgddpaonhaa.d
end

section
namespace Go.Am
set_option linter.unusedVariables false
set_option linter.unusedSimpArgs false
section
variable {P : Program} {E : Env} {w0 : World} {x : Bool}
@[simp] theorem oD {α : Type} (a : α) (Q : α → Prop) : optW (some a) Q = Q a := (rfl)
@[simp] theorem cdT (a b : Prop) : condD (.bool true) a b = a := (rfl)
@[simp] theorem cdF (a b : Prop) : condD (.bool false) a b = b := (rfl)
theorem cdB (t : Bool) (a b : Prop) : condD (.bool t) a b ↔ (t = true → a) ∧ (t = false → b) := by cases t <;> simp
theorem cdI (p : Prop) [Decidable p] (a b : Prop) : condD (.bool (decide p)) a b ↔ (p → a) ∧ (¬ p → b) := by
  by_cases h : p <;> simp [h]
@[simp] theorem gdT (s : (D → DSt → Prop) → Prop) (S : DSt) (Q : D → DSt → Prop) : guardD (some true) s S Q = s Q := (rfl)
@[simp] theorem gdF (s : (D → DSt → Prop) → Prop) (S : DSt) (Q : D → DSt → Prop) : guardD (some false) s S Q = Q undefD S := (rfl)
@[simp] theorem vdT (r : Option D) : valGD (some true) r = r := (rfl)
@[simp] theorem vdF (r : Option D) : valGD (some false) r = some undefD := (rfl)
@[simp] theorem wdB (b w : Bool) : wantsD (.bool b) w = some (b == w) := (rfl)
@[simp] theorem wdU (w : Bool) : wantsD undefD w = some false := (rfl)
@[simp] theorem pdB (t : Bool) (a b : D) : pickD (.bool t) a b = some (if t then a else b) := (rfl)
@[simp] theorem exD (vs : List D) (i : Nat) : extractD (.tup vs) i = vs[i]? := (rfl)
@[simp] theorem ndP (k i : Nat) : nilD (.ptr k i) = some (.ptr k i) := (rfl)
@[simp] theorem ndR (k r i sz : Nat) : nilD (.rel k r i sz) = some (.rel k r i sz) := (rfl)
@[simp] theorem ndE (row : List D) (i : Nat) : nilD (.elt row i) = some (.elt row i) := (rfl)
@[simp] theorem ndF (f : FuncId) (a b : List D) : nilD (.fn (.func f) a b) = some (.fn (.func f) a b) := (rfl)
@[simp] theorem ndI (t : TypeId) (v : D) : nilD (.ifc t v) = some (.ifc t v) := (rfl)
@[simp] theorem ofP (k i o : Nat) : offD o (.ptr k i) = some (.ptr k (i + o)) := (rfl)
@[simp] theorem ofR (k r i sz o : Nat) : offD o (.rel k r i sz) = some (.rel k r (i + o) sz) := (rfl)
@[simp] theorem ofE (row : List D) (i o : Nat) : offD o (.elt row i) = some (.elt row (i + o)) := (rfl)
@[simp] theorem paA (off n : Nat) (cs : List D) : partAg off n (.agg cs) = some (.agg ((cs.drop off).take n)) := (rfl)
@[simp] theorem psA (off : Nat) (cs : List D) : partSc off (.agg cs) = cs[off]? := (rfl)
@[simp] theorem lnN : lenSl .nilSlc = some (.int .i64 0) := (rfl)
@[simp] theorem lnL (rows : List (List D)) (sz : Nat) : lenSl (.lst rows sz) = some (.int .i64 rows.length) := (rfl)
@[simp] theorem lnE (rows more : List (List D)) (sz : Nat) : lenSl (.ext rows more sz) = some (.int .i64 rows.length) := (rfl)
@[simp] theorem lnR (k i len cap : Nat) (ex : Bool) (sz : Nat) : lenSl (.raw k i len cap ex sz) = some (.int .i64 len) := (rfl)
@[simp] theorem lnS (s : List UInt8) : lenStr (.str s) = some (.int .i64 s.length) := (rfl)
@[simp] theorem cvI (k k' : IntKind) (n : Int) : convI k (.int k' n) = some (.int k (k.wrap n)) := (rfl)
@[simp] theorem cvS (s : List UInt8) : convStr (.str s) = some (.str s) := (rfl)
@[simp] theorem unN (b : Bool) : unD .not (.bool b) = some (.bool !b) := (rfl)
@[simp] theorem unM (k : IntKind) (n : Int) : unD .neg (.int k n) = some (.int k (k.wrap (0 - n))) := (rfl)
@[simp] theorem biAdd (k : IntKind) (a b : Int) : binI .add (.int k a) (.int k b) = some (.int k (k.wrap (a + b))) := by simp [binI, intBinA, ofAV1]
@[simp] theorem biSub (k : IntKind) (a b : Int) : binI .sub (.int k a) (.int k b) = some (.int k (k.wrap (a - b))) := by simp [binI, intBinA, ofAV1]
@[simp] theorem biMul (k : IntKind) (a b : Int) : binI .mul (.int k a) (.int k b) = some (.int k (k.wrap (a * b))) := by simp [binI, intBinA, ofAV1]
@[simp] theorem biEq (k : IntKind) (a b : Int) : binI .eql (.int k a) (.int k b) = some (.bool (a == b)) := by simp [binI, intBinA, ofAV1]
@[simp] theorem biNe (k : IntKind) (a b : Int) : binI .neq (.int k a) (.int k b) = some (.bool (a != b)) := by simp [binI, intBinA, ofAV1]
@[simp] theorem biLt (k : IntKind) (a b : Int) : binI .lss (.int k a) (.int k b) = some (.bool (decide (a < b))) := by simp [binI, intBinA, ofAV1]
@[simp] theorem biLe (k : IntKind) (a b : Int) : binI .leq (.int k a) (.int k b) = some (.bool (decide (a ≤ b))) := by simp [binI, intBinA, ofAV1]
@[simp] theorem biGt (k : IntKind) (a b : Int) : binI .gtr (.int k a) (.int k b) = some (.bool (decide (a > b))) := by simp [binI, intBinA, ofAV1]
@[simp] theorem biGe (k : IntKind) (a b : Int) : binI .geq (.int k a) (.int k b) = some (.bool (decide (a ≥ b))) := by simp [binI, intBinA, ofAV1]
@[simp] theorem biAnd (k : IntKind) (a b : Int) : binI .and (.int k a) (.int k b) = some (.int k (k.wrap (BitVec.ofInt k.bits a &&& BitVec.ofInt k.bits b).toNat)) := by simp [binI, intBinA, ofAV1]
@[simp] theorem biOr (k : IntKind) (a b : Int) : binI .or (.int k a) (.int k b) = some (.int k (k.wrap (BitVec.ofInt k.bits a ||| BitVec.ofInt k.bits b).toNat)) := by simp [binI, intBinA, ofAV1]
@[simp] theorem biXor (k : IntKind) (a b : Int) : binI .xor (.int k a) (.int k b) = some (.int k (k.wrap (BitVec.ofInt k.bits a ^^^ BitVec.ofInt k.bits b).toNat)) := by simp [binI, intBinA, ofAV1]
@[simp] theorem bsAdd (a b : List UInt8) : binS .add (.str a) (.str b) = if ((a.length + b.length : Nat) : Int) ≤ IntKind.i64.max then some (.str (a ++ b)) else none := by
  simp only [binS, strBinA]; split <;> rfl
@[simp] theorem bsEq (a b : List UInt8) : binS .eql (.str a) (.str b) = some (.bool (a == b)) := (rfl)
@[simp] theorem bsNe (a b : List UInt8) : binS .neq (.str a) (.str b) = some (.bool !(a == b)) := (rfl)
@[simp] theorem eqE (b : Bool) : eqOp .eql (some b) = some (.bool b) := (rfl)
@[simp] theorem eqN (b : Bool) : eqOp .neq (some b) = some (.bool !b) := (rfl)
@[simp] theorem eqBB (a b : Bool) : eqBo (.bool a) (.bool b) = some (a == b) := (rfl)
@[simp] theorem clB (b : Bool) : cellsD (.bool b) = some [.bool b] := (rfl)
@[simp] theorem clI (k : IntKind) (n : Int) : cellsD (.int k n) = some [.int k n] := (rfl)
@[simp] theorem clS (s : List UInt8) : cellsD (.str s) = some [.str s] := (rfl)
@[simp] theorem clN : cellsD .nilSlc = some [.nilSlc] := (rfl)
@[simp] theorem clP : cellsD .nilPtr = some [.nilPtr] := (rfl)
@[simp] theorem clF : cellsD .nilFn = some [.nilFn] := (rfl)
@[simp] theorem clL (rows : List (List D)) (sz : Nat) : cellsD (.lst rows sz) = some [.lst rows sz] := (rfl)
@[simp] theorem clE (rows more : List (List D)) (sz : Nat) : cellsD (.ext rows more sz) = some [.ext rows more sz] := (rfl)
@[simp] theorem clR (k i len cap : Nat) (ex : Bool) (sz : Nat) : cellsD (.raw k i len cap ex sz) = some [.raw k i len cap ex sz] := (rfl)
@[simp] theorem clA (cs : List D) : cellsD (.agg cs) = some cs := (rfl)
@[simp] theorem clPt (k i : Nat) : cellsD (.ptr k i) = some [.ptr k i] := (rfl)
@[simp] theorem clFn (f : Fn) (a b : List D) : cellsD (.fn f a b) = some [.fn f a b] := (rfl)
@[simp] theorem clIf (t : TypeId) (v : D) : cellsD (.ifc t v) = some [.ifc t v] := (rfl)
@[simp] theorem agS (cs : List D) : aggD (some cs) = some (.agg cs) := (rfl)
@[simp] theorem fiN (cs : List D) : fillD cs [] = some cs := (rfl)
@[simp] theorem frN (sz : Nat) (rows : List (List D)) : fillR sz rows [] = some rows := (rfl)
@[simp] theorem lsE (row : List D) (i : Nat) (S : DSt) : loadSc S (.elt row i) = row[i]? := (rfl)
@[simp] theorem laE (row : List D) (i n : Nat) (S : DSt) : loadAg S n (.elt row i) = if 0 < n ∧ i + n ≤ row.length then some (.agg ((row.drop i).take n)) else none := (rfl)
@[simp] theorem mxD (k : IntKind) (a b : Int) : minMaxD true [.int k a, .int k b] = some (.int k (if b > a then b else a)) := (rfl)
@[simp] theorem mnD (k : IntKind) (a b : Int) : minMaxD false [.int k a, .int k b] = some (.int k (if b < a then b else a)) := (rfl)
theorem idxL {rows : List (List D)} {sz i : Nat} {row : List D} (h : rows[i]? = some row) : idxSl sz (.lst rows sz) (.int .i64 (i : Int)) = some (.elt row 0) := by
  simp only [idxSl]
  rw [if_pos ⟨by trivial, by omega⟩, Int.toNat_natCast, h]
theorem idxE {rows more : List (List D)} {sz i : Nat} {row : List D} (h : rows[i]? = some row) : idxSl sz (.ext rows more sz) (.int .i64 (i : Int)) = some (.elt row 0) := by
  simp only [idxSl]
  rw [if_pos ⟨by trivial, by omega⟩, Int.toNat_natCast, h]
theorem DSt.fresh {S : DSt} {j k : Nat} {o : DObj} (h : (S.set j o) k = Option.none) : k ≠ j ∧ S k = Option.none := by
  unfold DSt.set at h
  split at h
  · cases h
  · rename_i e; exact ⟨e, h⟩
theorem rowAt_ptr {S : DSt} {k i sz : Nat} {cs : List D} {acs : List AV} (h : S k = some ⟨sz, [cs], acs⟩) : rowAt S (.ptr k i) = some (cs, i) := by
  simp only [rowAt, h]
theorem ldP {S : DSt} {k i sz : Nat} {cs : List D} {acs : List AV} (h : S k = some ⟨sz, [cs], acs⟩) : loadSc S (.ptr k i) = cs[i]? := by simp only [loadSc, rowAt_ptr h]
theorem laP {S : DSt} {k i n sz : Nat} {cs : List D} {acs : List AV} (h : S k = some ⟨sz, [cs], acs⟩) (hn : 0 < n ∧ i + n ≤ cs.length) : loadAg S n (.ptr k i) = some (.agg ((cs.drop i).take n)) := by
  simp only [loadAg, rowAt_ptr h]; rw [if_pos hn]
theorem stP {S : DSt} {k i n sz : Nat} {cs ds : List D} {acs : List AV} {v : D} {K : D → DSt → Prop} (h : S k = some ⟨sz, [cs], acs⟩) (hv : cellsD v = some ds) (hn : ds.length = n ∧ 0 < n ∧ i + n ≤ cs.length)
    (hK : ∀ acs, K undefD (S.set k ⟨sz, [setManyD cs i ds], acs⟩)) : storeD S n (.ptr k i) v K := by
  simp only [storeD, hv, h]
  rw [if_pos ⟨hn.1, hn.2.1⟩, if_pos hn.2.2]
  exact hK
theorem DSt.le_new {S : DSt} {k : Nat} {o : DObj} (h : S k = Option.none) : S.le (S.set k o) := DSt.le_set (DSt.le_refl S) h
def ones (l : List D) : List (List D) := l.map fun d => [d]
@[simp] theorem ones_length (l : List D) : (ones l).length = l.length := List.length_map _
theorem ones_get {l : List D} {i : Nat} {d : D} (h : l[i]? = some d) : (ones l)[i]? = some [d] := by simp only [ones, List.getElem?_map, h]; rfl
/-- A slice that the run makes to grow: none at first; then all that an object of its own holds. -/
def Grw (S0 : DSt) (t : D) (rows : List (List D)) (sz : Nat) (S : DSt) : Prop :=
  (t = .nilSlc ∧ rows = [] ∧ S = S0) ∨ ∃ k acs, S0 k = Option.none ∧ t = .raw k 0 rows.length rows.length false sz ∧ S = S0.set k ⟨sz, rows, acs⟩
theorem Grw.nil (S : DSt) (sz : Nat) : Grw S .nilSlc [] sz S := .inl ⟨rfl, rfl, rfl⟩
theorem Grw.le {S0 S : DSt} {t : D} {rows : List (List D)} {sz : Nat} (h : Grw S0 t rows sz S) : S0.le S := by
  rcases h with ⟨_, _, rfl⟩ | ⟨k, acs, h, _, rfl⟩
  · exact DSt.le_refl _
  · exact DSt.le_new h
theorem Grw.len {S0 S : DSt} {t : D} {rows : List (List D)} {sz : Nat} (h : Grw S0 t rows sz S) : lenSl t = some (.int .i64 rows.length) := by
  rcases h with ⟨rfl, rfl, rfl⟩ | ⟨k, acs, h, rfl, rfl⟩ <;> rfl
theorem Grw.push {S0 S : DSt} {t : D} {rows : List (List D)} {sz bytes : Nat} (h : Grw S0 t rows sz S) {v : D} {news : List (List D)} (hv : rowsS S sz v = some news) (hb : 0 < bytes ∧ (2 * (rows.length + news.length) + 768) * bytes ≤ 2 ^ 47) {K : D → DSt → Prop}
    (hK : ∀ t' S', Grw S0 t' (rows ++ news) sz S' → K t' S') : appendD S sz bytes t v K := by
  simp only [appendD, hv]
  rcases h with ⟨rfl, rfl, rfl⟩ | ⟨k, acs, h, rfl, rfl⟩
  · simp only [growD]
    by_cases hn : news = []
    · rw [if_pos hn]
      exact hK _ _ (.inl ⟨rfl, by rw [hn]; rfl, rfl⟩)
    · rw [if_neg hn]
      refine ⟨⟨hb.1, by simpa using hb.2⟩, .inr fun k acs hk => hK _ _ (.inr ⟨k, acs, hk, ?_, ?_⟩)⟩ <;> simp
  · simp only [growD]
    by_cases hn : news = []
    · rw [if_pos hn]
      refine hK _ _ (.inr ⟨k, acs, h, ?_, ?_⟩) <;> simp [hn]
    · rw [if_neg hn, DSt.set_same]
      simp only
      rw [if_pos ⟨by trivial, by trivial, by omega⟩]
      refine ⟨hb, .inr fun k' acs' hk' => ?_⟩
      rw [DSt.erase_set _ _ _ h] at hk' ⊢
      refine hK _ _ (.inr ⟨k', acs', hk', ?_, ?_⟩) <;> simp
theorem Grw.fin {S0 S : DSt} {t : D} {rows : List (List D)} {sz : Nat} (h : Grw S0 t rows sz S) {Q : D → DSt → Prop} (hq : FinD E Q (.lst rows sz) S0) : FinD E Q t S := by
  rcases h with ⟨rfl, rfl, rfl⟩ | ⟨k, acs, h, rfl, rfl⟩
  · exact FinD.nil hq
  · refine FinD.freeze (DSt.set_same _ _ _) rfl (by simp) (Nat.le_refl _) ?_
    rw [DSt.erase_set _ _ _ h]
    simpa using hq
theorem Grw.under {S0 S : DSt} {t : D} {rows : List (List D)} {sz : Nat} (h : Grw S0 t rows sz S) {k : Nat} {o : DObj} (hk : S k = Option.none) : Grw (S0.set k o) t rows sz (S.set k o) := by
  rcases h with ⟨rfl, rfl, rfl⟩ | ⟨l, acs, h, rfl, rfl⟩
  · exact .inl ⟨rfl, rfl, rfl⟩
  · obtain ⟨hne, hk0⟩ := DSt.fresh hk
    refine .inr ⟨l, acs, ?_, rfl, DSt.set_comm _ (Ne.symm hne) _ _⟩
    rw [DSt.set_ne _ _ _ (Ne.symm hne)]; exact h
theorem Grw.drop {S0 S : DSt} {t : D} {rows : List (List D)} {sz k : Nat} {o : DObj} (h : Grw (S0.set k o) t rows sz S) (hk : S0 k = Option.none) : ∃ S', S'.le S ∧ Grw S0 t rows sz S' := by
  rcases h with ⟨rfl, rfl, rfl⟩ | ⟨l, acs, h, rfl, rfl⟩
  · exact ⟨S0, DSt.le_new hk, .inl ⟨rfl, rfl, rfl⟩⟩
  · obtain ⟨hne, hl0⟩ := DSt.fresh h
    refine ⟨S0.set l ⟨sz, rows, acs⟩, ?_, .inr ⟨l, acs, hl0, rfl, rfl⟩⟩
    rw [DSt.set_comm _ (Ne.symm hne)]
    refine DSt.le_new ?_
    rw [DSt.set_ne _ _ _ (Ne.symm hne)]; exact hk
/-- From a lesser state. -/
theorem Grw.base {S0 S1 S : DSt} {t : D} {rows : List (List D)} {sz : Nat} (h : Grw S1 t rows sz S) (hle : S0.le S1) : ∃ S', S'.le S ∧ Grw S0 t rows sz S' := by
  rcases h with ⟨rfl, rfl, rfl⟩ | ⟨l, acs, h, rfl, rfl⟩
  · exact ⟨S0, hle, .inl ⟨rfl, rfl, rfl⟩⟩
  · have hl : S0 l = Option.none := by
      cases e : S0 l with
      | none => rfl
      | some o => rw [hle _ _ e] at h; cases h
    refine ⟨S0.set l ⟨sz, rows, acs⟩, fun j o e => ?_, .inr ⟨l, acs, hl, rfl, rfl⟩⟩
    unfold DSt.set at e ⊢
    split at e
    · rename_i hj; rw [if_pos hj]; exact e
    · rename_i hj; rw [if_neg hj]; exact hle _ _ e
/-- A pure answer is used. -/
theorem lit_lst {S : DSt} {sz : Nat} {rows : List (List D)} {len : Nat} {K : D → DSt → Prop} (hl : rows.length = len) (h : K (.lst rows sz) S) : litD S sz (some rows) len K := by
  simp only [litD, oD]
  refine .inl ?_
  rw [List.take_of_length_le (by omega)]
  exact h
end
end Go.Am
end

section
namespace Go.Op
open Go.Am
set_option linter.unusedVariables false
set_option linter.unusedSimpArgs false
set_option maxRecDepth 100000
/-- Between which numbers a width's are. -/
def fitLo (w : Int) : Int := if w = 1 then -128 else if w = 2 then -2147483648 else if w = 3 then -9223372036854775808 else 1
def fitHi (w : Int) : Int := if w = 1 then 127 else if w = 2 then 2147483647 else if w = 3 then 9223372036854775807 else 0
def I64 (n : Int) : Prop := -9223372036854775808 ≤ n ∧ n ≤ 9223372036854775807
/-- A number behind an Op. -/
structure Fld where
  size : Nat
  lo : Int
  hi : Int
  deriving DecidableEq
/-- An instruction. -/
structure In where
  op : Int
  a : Int
  b : Int
  arms : List (Int × Int)
structure In.Ok (x : In) : Prop where
  op : 0 ≤ x.op ∧ x.op ≤ 255
  a : I64 x.a
  b : I64 x.b
  arms : ∀ y ∈ x.arms, I64 y.1 ∧ I64 y.2
  short : x.arms.length < 2 ^ 44
def Fld.may (f : Fld) (n : Int) : Bool := decide (f.lo ≤ n ∧ n ≤ f.hi)
def Byte (b : Int) : Prop := 0 ≤ b ∧ b ≤ 255
section
variable {bs es : List Int} {i : Nat} {f : Fld} {s sb sE : Nat × Int}
end
section
variable {bs l m : List Int} {f : Fld} {s : Nat × Int} {p : Nat}
/-- What stands at a place. -/
def Seg (bs : List Int) (p : Nat) (l : List Int) : Prop := p + l.length ≤ bs.length ∧ (bs.drop p).take l.length = l
theorem Seg.append (h : Seg bs p l) (g : Seg bs (p + l.length) m) : Seg bs p (l ++ m) := by
  obtain ⟨h1, h2⟩ := h
  obtain ⟨g1, g2⟩ := g
  refine ⟨by rw [List.length_append]; omega, ?_⟩
  rw [List.length_append, List.take_add, h2, List.drop_drop, g2]
theorem Seg.nil (h : p ≤ bs.length) : Seg bs p [] := ⟨by simpa using h, rfl⟩
end
end Go.Op
end

section
namespace Go.Am
set_option linter.unusedVariables false
set_option linter.unusedSimpArgs false
section
variable {P : Program} {E : Env} {w0 : World} {x : Bool} {R : Fz} {S : DSt} {H : AHeap}
/-- What is told less of. -/
def Wk (d d' : D) : Prop := ∀ (E : Env) (R : Fz) (v : AV), Rp E R d v → Rp E R d' v
def WkL : List D → List D → Prop
  | [], [] => True
  | d :: ds, e :: es => Wk d e ∧ WkL ds es
  | _, _ => False
theorem Wk.refl (d : D) : Wk d d := fun _ _ _ h => h
theorem Wk.any (d : D) : Wk d .any := fun _ _ _ _ => rp_any
theorem Wk.nil (sz : Nat) : Wk .nilSlc (.lst [] sz) := fun E R v h => by simp only [Rp] at h ⊢; exact .inl ⟨by trivial, h⟩
theorem Wk.ext (rows more : List (List D)) (sz : Nat) : Wk (.ext rows more sz) (.lst rows sz) := fun E R v h => by
  simp only [Rp] at h ⊢
  obtain ⟨o, j, cap, ex, z, all, e1, e2, e3, e4, e5, e6, e7, e8, e9⟩ := h
  refine .inr ⟨o, j, cap, ex, z, e1, e2, by omega, e4, ?_⟩
  rcases e6 with e6 | ⟨e6, _⟩
  rotate_left
  · exact .inl e6
  refine .inr ⟨all, e6, e7, ?_⟩
  have := all_take e9 (rows.length * sz)
  rw [List.take_take, Nat.min_eq_left (Nat.mul_le_mul_right _ (by omega))] at this
  exact this
/-- A list of nothing: no slice, or one that is there. -/
theorem DF.split {F : FW} {f : FuncId} {sz : Nat} {pre post : List D} {S : DSt} {Q : D → DSt → Prop} (h1 : DF E F f (pre ++ .nilSlc :: post) S Q) (h2 : DF E F f (pre ++ .ext [] [] sz :: post) S Q) : DF E F f (pre ++ .lst [] sz :: post) S Q := fun R H avs hF hC ha => by
  obtain ⟨v1, v2, rfl, g1, g2⟩ := rpL_split ha
  simp only [RpL] at g2
  obtain ⟨w, ws, rfl, g3, g4⟩ := g2
  simp only [Rp] at g3
  rcases g3 with ⟨_, rfl⟩ | ⟨o, j, cap, ex, z, rfl, f1, f2, _, _⟩
  · exact h1 R H _ hF hC (g1.append (rpL_cons (by simp only [Rp]) g4))
  · refine h2 R H _ hF hC (g1.append (rpL_cons ?_ g4))
    simp only [Rp]
    exact ⟨o, j, cap, ex, z, [], rfl, f1, by simp, by simp, by simp, by simp, by simp [RpLL], by simp [RpLL], by simp⟩
theorem WkL.refl : ∀ ds : List D, WkL ds ds
  | [] => trivial
  | d :: ds => ⟨Wk.refl d, WkL.refl ds⟩
theorem WkL.ok : ∀ {ds es : List D}, WkL ds es → ∀ {E : Env} {R : Fz} {vs : List AV}, RpL E R ds vs → RpL E R es vs
  | [], [], _, E, R, vs, h => h
  | d :: ds, e :: es, w, E, R, vs, h => by
    simp only [RpL] at h ⊢
    obtain ⟨v, ws, e1, e2, e3⟩ := h
    exact ⟨v, ws, e1, w.1 _ _ _ e2, WkL.ok w.2 e3⟩
  | [], _ :: _, w, _, _, _, _ => w.elim
  | _ :: _, [], w, _, _, _, _ => w.elim
theorem Wk.agg {ds es : List D} (w : WkL ds es) : Wk (.agg ds) (.agg es) := fun E R v h => by
  simp only [Rp] at h ⊢
  obtain ⟨vs, e1, e2, e3⟩ := h
  exact ⟨vs, e1, w.ok e2, e3⟩
theorem Wk.tup {ds es : List D} (w : WkL ds es) : Wk (.tup ds) (.tup es) := fun E R v h => by
  simp only [Rp] at h ⊢
  obtain ⟨vs, e1, e2⟩ := h
  exact ⟨vs, e1, w.ok e2⟩
theorem FinD.weak {Q : D → DSt → Prop} {d d' : D} (w : Wk d d') (h : FinD E Q d' S) : FinD E Q d S := fun R H v hC hd => h R H v hC (w _ _ _ hd)
/-- A call with arguments told less of. -/
theorem DF.weak {F : FW} {f : FuncId} {ds es : List D} {Q : D → DSt → Prop} (w : WkL ds es) (h : DF E F f es S Q) : DF E F f ds S Q := fun R H avs hF hC ha => h R H avs hF hC (w.ok ha)
/-- What is new is left away. -/
theorem FinD.drop {Q : D → DSt → Prop} {d : D} {k : Nat} {o : DObj} (hk : S k = Option.none) (h : FinD E Q d S) : FinD E Q d (S.set k o) := FinD.less (DSt.le_new hk) h
theorem FinD.pure {d : D} : FinD E (fun d' S' => d' = d ∧ S' = S) d S := FinD.here ⟨rfl, rfl⟩
end
end Go.Am
end

section
open Go.Proofs Go Go.Am Go.Op
namespace Go.Proofs.Ytchnpgddpaonhaa.d
set_option linter.unusedVariables false
set_option linter.unusedSimpArgs false
set_option maxRecDepth 100000
section
variable {E : Env} {w0 : World}
/-- A function that tells whether a number is from one to another. -/
def betD (lo hi : Int) : D := .fn (.func f_ops_between_1) [] [.elt [.int .i64 lo] 0, .elt [.int .i64 hi] 0]
def fitD (w : Int) : D := .fn (.func f_ops_fits_1) [] [.elt [.int .u8 w] 0]
end
end Go.Proofs.Ytchnpgddpaonhaa.d
end

section
open Go.Proofs Go Go.Am Go.Op
namespace Go.Proofs.Ytchnpgddpaonhaa.d
set_option linter.unusedVariables false
set_option linter.unusedSimpArgs false
set_option maxRecDepth 100000
/-- Bytes. -/
def bD (bs : List Int) : D := .lst (ones (bs.map (D.int .u8))) 1
@[simp] theorem bD_len (bs : List Int) : lenSl (bD bs) = some (.int .i64 bs.length) := by simp [bD]
@[simp] theorem bD_rows (S : DSt) (bs : List Int) : rowsS S 1 (bD bs) = some (ones (bs.map (D.int .u8))) := by simp [bD, rowsS, rowsOf]
section
variable {E : Env} {w0 : World}
end
end Go.Proofs.Ytchnpgddpaonhaa.d
end

section
open Go.Proofs Go Go.Am Go.Op
namespace Go.Proofs.Ytchnpgddpaonhaa.d
set_option linter.unusedVariables false
set_option linter.unusedSimpArgs false
set_option maxRecDepth 100000
/-- What tells whether a number is from one to another. -/
def MayD (fv : D) (lo hi : Int) : Prop := fv = betD lo hi ∨ ∃ w, fv = fitD w ∧ lo = fitLo w ∧ hi = fitHi w
theorem MayD.cells {fv : D} {lo hi : Int} (h : MayD fv lo hi) : cellsD fv = some [fv] := by
  rcases h with rfl | ⟨w, rfl, _⟩ <;> rfl
/-- A row of a field. -/
def FldD (row : List D) (f : Fld) : Prop := ∃ fv, row = [.int .i64 (f.size : Int), fv] ∧ MayD fv f.lo f.hi
section
variable {E : Env} {w0 : World} {x : Bool} {S0 S : DSt} {t : D} {bs ms : List Int}
end
end Go.Proofs.Ytchnpgddpaonhaa.d
end

section
open Go.Proofs Go Go.Am Go.Op
namespace Go.Proofs.Ytchnpgddpaonhaa.d
set_option linter.unusedVariables false
set_option linter.unusedSimpArgs false
set_option maxRecDepth 100000
def armR (y : Int × Int) : List D := [.int .i64 y.1, .int .i64 y.2]
/-- Arms; an instruction. -/
def armD (arms : List (Int × Int)) : D := .lst (arms.map armR) 2
section
variable {E : Env} {w0 : World} {x : Bool} {S0 S : DSt} {t : D} {bs ms : List Int}
@[simp] theorem armD_len (arms : List (Int × Int)) : lenSl (armD arms) = some (.int .i64 arms.length) := by simp [armD]
end
end Go.Proofs.Ytchnpgddpaonhaa.d
end

section
open Go.Proofs Go Go.Am Go.Op
namespace Go.Proofs.Ytchnpgddpaonhaa.d
set_option linter.unusedVariables false
set_option linter.unusedSimpArgs false
set_option maxRecDepth 100000
theorem FldD.load {row : List D} {f : Fld} (h : FldD row f) : row.length = 2 := by obtain ⟨fv, rfl, _⟩ := h; rfl
section
variable {E : Env} {w0 : World} {x : Bool} {S0 S : DSt} {t : D} {bs : List Int} {y : In}
end
end Go.Proofs.Ytchnpgddpaonhaa.d
end

section
open Go.Proofs Go Go.Am Go.Op
namespace Go.Proofs.Ytchnpgddpaonhaa.d
set_option linter.unusedVariables false
set_option linter.unusedSimpArgs false
set_option maxRecDepth 100000
@[simp] theorem idx0 (row : List D) (rows : List (List D)) (sz : Nat) : idxSl sz (.lst (row :: rows) sz) (.int .i64 0) = some (.elt row 0) := idxL (i := 0) rfl
@[simp] theorem idx1 (a row : List D) (rows : List (List D)) (sz : Nat) : idxSl sz (.lst (a :: row :: rows) sz) (.int .i64 1) = some (.elt row 0) := idxL (i := 1) rfl
theorem beqD (a b : Int) : (a == b) = decide (a = b) := by by_cases h : a = b <;> simp [h]
end Go.Proofs.Ytchnpgddpaonhaa.d
end

section
namespace Go.Am
set_option linter.unusedVariables false
set_option linter.unusedSimpArgs false
def WkR : List (List D) → List (List D) → Prop
  | [], [] => True
  | r :: rs, q :: qs => (WkL r q ∧ r.length = q.length) ∧ WkR rs qs
  | _, _ => False
theorem WkR.length : ∀ {rs qs : List (List D)}, WkR rs qs → rs.length = qs.length
  | [], [], _ => rfl
  | r :: rs, q :: qs, h => by rw [List.length_cons, List.length_cons, WkR.length h.2]
  | [], _ :: _, h => h.elim
  | _ :: _, [], h => h.elim
theorem WkR.row : ∀ {rs qs : List (List D)} {sz : Nat}, WkR rs qs → (∀ r ∈ rs, r.length = sz) → ∀ q ∈ qs, q.length = sz
  | [], [], sz, _, _ => fun q hq => by cases hq
  | r :: rs, q :: qs, sz, h, hr => fun y hy => by
    rcases List.mem_cons.1 hy with e | hy
    · subst e; rw [← h.1.2]; exact hr r List.mem_cons_self
    · exact WkR.row h.2 (fun r hr' => hr r (List.mem_cons_of_mem _ hr')) y hy
  | [], _ :: _, _, h, _ => h.elim
  | _ :: _, [], _, h, _ => h.elim
theorem WkR.ok {E : Env} {R : Fz} : ∀ {rs qs : List (List D)} {vs : List AV}, WkR rs qs → RpLL E R rs vs → RpLL E R qs vs
  | [], [], vs, _, h => h
  | r :: rs, q :: qs, vs, w, h => by
    simp only [RpLL] at h ⊢
    obtain ⟨a, b, e, h1, h2⟩ := h
    exact ⟨a, b, e, w.1.1.ok h1, WkR.ok w.2 h2⟩
  | [], _ :: _, _, w, _ => w.elim
  | _ :: _, [], _, w, _ => w.elim
theorem Wk.lst {rs qs : List (List D)} (w : WkR rs qs) (sz : Nat) : Wk (.lst rs sz) (.lst qs sz) := fun E R v h => by
  simp only [Rp] at h ⊢
  rcases h with ⟨rfl, rfl⟩ | ⟨o, j, cap, ex, z, e1, e2, e3, e4, e5⟩
  · cases qs with
    | nil => exact .inl ⟨rfl, rfl⟩
    | cons => exact w.elim
  · refine .inr ⟨o, j, cap, ex, z, by rw [← w.length]; exact e1, e2, by rw [← w.length]; exact e3, w.row e4, ?_⟩
    rcases e5 with rfl | ⟨all, f1, f2, f3⟩
    · cases qs with
      | nil => exact .inl rfl
      | cons => exact w.elim
    · exact .inr ⟨all, f1, by rw [← w.length]; exact w.ok f2, by rw [← w.length]; exact f3⟩
theorem Wk.trans {a b c : D} (h : Wk a b) (h' : Wk b c) : Wk a c := fun E R v x => h' E R v (h E R v x)
theorem WkR.map {α : Type} {f g : α → List D} (h : ∀ a, WkL (f a) (g a) ∧ (f a).length = (g a).length) : ∀ (l : List α), WkR (l.map f) (l.map g)
  | [] => trivial
  | a :: l => ⟨h a, WkR.map h l⟩
/-- A list that is read: with more behind it, or not. -/
inductive Lst (rows : List (List D)) (sz : Nat) : D → Prop where
  | lst : Lst rows sz (.lst rows sz)
  | ext (more : List (List D)) : Lst rows sz (.ext rows more sz)
section
variable {rows : List (List D)} {sz : Nat} {d : D}
theorem Lst.len (h : Lst rows sz d) : lenSl d = some (.int .i64 rows.length) := by cases h <;> rfl
theorem Lst.at (h : Lst rows sz d) {i : Nat} {row : List D} (hr : rows[i]? = some row) : idxSl sz d (.int .i64 (i : Int)) = some (.elt row 0) := by
  cases h
  · exact idxL hr
  · exact idxE hr
theorem Lst.rowsS (h : Lst rows sz d) (S : DSt) : Am.rowsS S sz d = some rows := by
  cases h <;> simp [Am.rowsS, rowsOf]
theorem Lst.wk (h : Lst rows sz d) : Wk d (.lst rows sz) := by
  cases h
  · exact Wk.refl _
  · exact Wk.ext _ _ _
theorem Lst.cells (h : Lst rows sz d) : cellsD d = some [d] := by cases h <;> rfl
end
theorem bndN {n cap : Nat} (h : n ≤ cap) : boundD (.int .i64 (n : Int)) cap = some n := by
  simp only [boundD]
  rw [if_pos (by omega), Int.toNat_natCast]
theorem slcL {rows : List (List D)} {sz n : Nat} (h : n ≤ rows.length) : sliceSl sz (.lst rows sz) none (some (.int .i64 (n : Int))) none = some (extD (rows.take n) (rows.drop n) sz) := by
  simp only [sliceSl, boundsD, topD, highD, lowD, if_true, Option.bind_some, bndN h, Option.map_some, List.drop_zero, Nat.sub_zero]
  rw [List.take_of_length_le (l := rows.drop n) (by rw [List.length_drop]; omega)]
theorem Grw.upd {S0 S : DSt} {t : D} {rows : List (List D)} {sz k : Nat} {o o' : DObj} (h : Grw S0 t rows sz S) (hk : S0 k = some o') : Grw (S0.set k o) t rows sz (S.set k o) := by
  rcases h with ⟨rfl, rfl, rfl⟩ | ⟨l, acs, h, rfl, rfl⟩
  · exact .inl ⟨rfl, rfl, rfl⟩
  · have hne : l ≠ k := fun e => by rw [e, hk] at h; cases h
    refine .inr ⟨l, acs, ?_, rfl, DSt.set_comm _ hne _ _⟩
    rw [DSt.set_ne _ _ _ hne]; exact h
/-- What grows no more. -/
theorem Grw.last {S0 S : DSt} {t : D} {rows : List (List D)} {sz bytes : Nat} (h : Grw S0 t rows sz S) {v : D} {news : List (List D)} (hv : rowsS S sz v = some news) (hn : news ≠ []) (hb : 0 < bytes ∧ (2 * (rows.length + news.length) + 768) * bytes ≤ 2 ^ 47) {K : D → DSt → Prop}
    (hK : K (.lst (rows ++ news) sz) S0) : appendD S sz bytes t v K := by
  simp only [appendD, hv]
  rcases h with ⟨rfl, rfl, rfl⟩ | ⟨k, acs, h, rfl, rfl⟩
  · simp only [growD]
    rw [if_neg hn]
    refine ⟨⟨hb.1, by simpa using hb.2⟩, .inl ?_⟩
    rw [List.take_of_length_le (Nat.le_refl _)]
    simpa using hK
  · simp only [growD]
    rw [if_neg hn, DSt.set_same]
    simp only
    rw [if_pos ⟨by trivial, by trivial, by omega⟩]
    refine ⟨hb, .inl ?_⟩
    rw [DSt.erase_set _ _ _ h, List.take_of_length_le (by simp)]
    simpa using hK
end Go.Am
end
