/-
  Texts Di Fn Va Dj, as far as they are used.
-/
import Derived.Test.YtchnpgddpaonhaaUat
import Derived.Test.YtchnpgddpaonhaaRows
import Derived.KernelRfl
section
namespace Go.Am
set_option linter.unusedVariables false
set_option linter.unusedSimpArgs false
section
variable (P : Program) (E : Env) (w0 : World) (x : Bool)
def FnF : FW := match x with
  | true => FnX P E w0
  | false => FnW P E w0
def CodeF (c : Code) (T : List AV) (H : AHeap) (Q : AExit → List AV → AHeap → Prop) : Prop := match x with
  | true => CodeX P E w0 c T H Q
  | false => CodeW P E w0 c T H Q
/-- A call, at the plain level. -/
abbrev DFn := DF E (FnF P E w0 x)
def PostC (E : Env) (R : Fz) (n : Nat) (Q : AExit → List D → DSt → Prop) (ex : AExit) (avs' : List AV) (H' : AHeap) : Prop := PostL E R n (Q ex) avs' H'
/-- A piece of code, at the plain level. -/
def CodeD (c : Code) (T : List D) (S : DSt) (Q : AExit → List D → DSt → Prop) : Prop :=
  ∀ R H avs, Fine H → Conf E R S H → RpL E R T avs → CodeF P E w0 x c avs H (PostC E R T.length Q)
end
def setAll : List D → List Nat → List D → List D
  | T, i :: L, v :: vs => setAll (T.set i v) L vs
  | T, _, _ => T
/-- A row of which some entries are told. -/
def mkRow (n : Nat) (L : List Nat) (vs : List D) : List D := setAll (List.replicate n .any) L vs
def liveOf (T : List D) : List Nat → List D
  | [] => []
  | i :: L => T.getD i undefD :: liveOf T L
def condD (c : D) (a b : Prop) : Prop := match c with
  | .bool true => a
  | .bool false => b
  | _ => False
def blockD (id : Nat) (Q : AExit → List D → DSt → Prop) : AExit → List D → DSt → Prop
  | .exit id', T, S => if id' = id then Q .normal T S else Q (.exit id') T S
  | e, T, S => Q e T S
def findL (k : Nat) : List (Nat × List Nat) → Option (List Nat)
  | [] => none
  | (i, L) :: l => if i = k then some L else findL k l
/-- A number for a code, by what it begins with. -/
def hdD : Code → Option Nat
  | .region id _ _ => some (2 * id)
  | .seq a b => match hdD a with
    | some k => some k
    | none => hdD b
  | .cond _ a b => match hdD a with
    | some k => some (2 * k + 1)
    | none => match hdD b with
      | some k => some (2 * k + 1)
      | none => none
  | .block _ c | .loop c => hdD c
  | _ => none
def cutL (cuts : List (Nat × List Nat)) (c : Code) : Option (List Nat) := match hdD c with
  | some id => findL id cuts
  | none => none
section
variable (P : Program) (E : Env) (w0 : World) (x : Bool) (loops cuts : List (Nat × List Nat))
def vcD : Code → List D → DSt → (AExit → List D → DSt → Prop) → Prop
  | .skip, T, S, Q => Q .normal T S
  | .label _, T, S, Q => Q .normal T S
  | .ret, T, S, Q => Q .ret T S
  | .exit id, T, S, Q => Q (.exit id) T S
  | .region _ ops draw, T, S, Q => match draw with
    | false => OpsD P (DF E (FnF P E w0 x)) ops ops.toList T S (Q .normal)
    | true => RegD P (DF E (FnX P E w0)) x ops T S (Q .normal)
  | .seq a b, T, S, Q => match cutL cuts b with
    | some L => vcD a T S fun ex T' S' => match ex with
      | .normal => CodeD P E w0 x b (mkRow T.length L (liveOf T' L)) S' Q
      | e => Q e T' S'
    | none => vcD a T S fun ex T' S' => match ex with
      | .normal => vcD b T' S' Q
      | e => Q e T' S'
  | .cond c a b, T, S, Q => condD (dEval T c) (vcD a T S Q) (vcD b T S Q)
  | .block id c, T, S, Q => vcD c T S (blockD id Q)
  | .loop c, T, S, Q => match cutL loops c with
    | some L => CodeD P E w0 x (.loop c) (mkRow T.length L (liveOf T L)) S Q
    | none => CodeD P E w0 x (.loop c) T S Q
  | _, _, _, _ => False
end
section
variable (P : Program) (E : Env) (w0 : World) (x : Bool) (loops cuts : List (Nat × List Nat))
def seqD (b : Code) (Q : AExit → List D → DSt → Prop) (ex : AExit) (T : List D) (S : DSt) : Prop := match ex with
  | .normal => vcD P E w0 x loops cuts b T S Q
  | e => Q e T S
/-- Where a code is left as it is: with its live row. -/
def cutD (n : Nat) (L : List Nat) (b : Code) (Q : AExit → List D → DSt → Prop) (ex : AExit) (T : List D) (S : DSt) : Prop := match ex with
  | .normal => CodeD P E w0 x b (mkRow n L (liveOf T L)) S Q
  | e => Q e T S
end
def loopKD (N : List D → DSt → Prop) (Q : AExit → List D → DSt → Prop) (ex : AExit) (T : List D) (S : DSt) : Prop := match ex with
  | .normal => N T S
  | e => Q e T S
def resultD (P : Program) (S : DSt) (T : List D) : List ResultVar → (List D → Prop) → Prop
  | [], K => K []
  | .tmp t :: l, K => resultD P S T l fun vs => K (T.getD t undefD :: vs)
  | .cell a t :: l, K => optW (loadD P S t (T.getD a undefD)) fun v => resultD P S T l fun vs => K (v :: vs)
def packD : List D → D
  | [v] => v
  | vs => .tup vs
def retD (P : Program) (fn : Func) (Q : D → DSt → Prop) : AExit → List D → DSt → Prop
  | .exit _, _, _ => False
  | _, T, S => resultD P S T fn.results.toList fun vs => Q (packD vs) S
/-- An end, seen from without: what is no longer needed is left away, what is no longer turned is told by what it holds. -/
def FinD (E : Env) (Q : D → DSt → Prop) (d : D) (S : DSt) : Prop :=
  ∀ R H v, Conf E R S H → Rp E R d v → ∃ R' S' d', R.le R' ∧ Conf E R' S' H ∧ Rp E R' d' v ∧ Q d' S'
section
variable {P : Program} {E : Env} {w0 : World} {x : Bool}
theorem CodeF.mono {c : Code} {T : List AV} {H : AHeap} {Q Q' : AExit → List AV → AHeap → Prop} (h : CodeF P E w0 x c T H Q) (hq : ∀ ex T' H', Q ex T' H' → Q' ex T' H') : CodeF P E w0 x c T H Q' := by
  cases x
  · exact CodeW.mono h hq
  · exact CodeX.mono h hq
theorem fnF_good : GoodF (FnF P E w0 x) := by
  cases x
  · exact fnW_good
  · exact fnX_good
theorem codeF_end {c : Code} {T : List AV} {H : AHeap} {Q : AExit → List AV → AHeap → Prop} {ex : AExit} (hq : Q ex T H) (h : ∀ Q', Q' ex T H → CodeW P E w0 c T H Q') : CodeF P E w0 x c T H Q := by
  cases x
  · exact h Q hq
  · exact codeX_end hq h
theorem codeF_seq {a b : Code} {T : List AV} {H : AHeap} {Q : AExit → List AV → AHeap → Prop}
    (h : CodeF P E w0 x a T H fun ex T' H' => match ex with | .normal => CodeF P E w0 x b T' H' Q | e => Q e T' H') : CodeF P E w0 x (.seq a b) T H Q := by
  cases x
  · exact codeW_seq (CodeW.mono h fun ex T' H' hq => by cases ex <;> exact hq)
  · exact codeX_seq (CodeX.mono h fun ex T' H' hq => by cases ex <;> exact hq)
theorem codeF_block {id : Nat} {c : Code} {T : List AV} {H : AHeap} {Q : AExit → List AV → AHeap → Prop} (h : CodeF P E w0 x c T H (blockQ id Q)) : CodeF P E w0 x (.block id c) T H Q := by
  cases x
  · exact codeW_block h
  · exact codeX_block h
theorem codeF_cond {c : Operand} {a b : Code} {T : List AV} {H : AHeap} {Q : AExit → List AV → AHeap → Prop} {t : Bool} (hc : aEval T c = .bool t) (h : CodeF P E w0 x (if t then a else b) T H Q) : CodeF P E w0 x (.cond c a b) T H Q := by
  have key : ∀ {Q : AExit → List AV → AHeap → Prop}, CodeW P E w0 (if t then a else b) T H Q → CodeW P E w0 (.cond c a b) T H Q := fun h => codeW_cond (by
    rw [hc]
    cases t <;> exact h)
  cases x
  · exact key h
  · intro hr
    obtain ⟨ex, T', H', h1, h2⟩ := h hr
    exact ⟨ex, T', H', key h1, h2⟩
theorem codeF_loop {c : Code} {Q : AExit → List AV → AHeap → Prop} {I : Nat → List AV → AHeap → Prop}
    (step : ∀ n T H, I n T H → CodeF P E w0 x c T H fun ex T' H' => match ex with | .normal => ∃ m, m < n ∧ I m T' H' | e => Q e T' H')
    {n : Nat} {T : List AV} {H : AHeap} (h : I n T H) : CodeF P E w0 x (.loop c) T H Q := by
  cases x
  · exact codeW_loop (fun n T H hI => CodeW.mono (step n T H hI) fun ex T' H' hq => by cases ex <;> exact hq) h
  · exact codeX_loop (fun n T H hI => CodeX.mono (step n T H hI) fun ex T' H' hq => by cases ex <;> exact hq) h
theorem CodeD.mono {c : Code} {T : List D} {S : DSt} {Q Q' : AExit → List D → DSt → Prop} (h : CodeD P E w0 x c T S Q) (hq : ∀ ex T' S', T'.length = T.length → Q ex T' S' → Q' ex T' S') : CodeD P E w0 x c T S Q' := fun R H avs F hC hT =>
  (h R H avs F hC hT).mono fun ex T' H' ⟨F', R', S', T1, a, b, c, d, e⟩ => ⟨F', R', S', T1, a, b, c, d, hq _ _ _ d e⟩
theorem DF.mono {F : FW} (hF : GoodF F) {f : FuncId} {ds : List D} {S : DSt} {Q Q' : D → DSt → Prop} (h : DF E F f ds S Q) (hq : ∀ d S', Q d S' → Q' d S') : DF E F f ds S Q' := fun R H avs hFi hC ha =>
  hF _ _ _ _ _ (h R H avs hFi hC ha) fun v H' ⟨F', R', S', d, a, b, c, e⟩ => ⟨F', R', S', d, a, b, c, hq _ _ e⟩
/-- A contract that is used. -/
theorem DFn.use {f : FuncId} {ds : List D} {S : DSt} {Q Q' : D → DSt → Prop} (h : DFn P E w0 x f ds S Q) (hq : ∀ d S', Q d S' → Q' d S') : DFn P E w0 x f ds S Q' := DF.mono fnF_good h hq
theorem DFn.toX {f : FuncId} {ds : List D} {S : DSt} {Q Q' : D → DSt → Prop} (h : DFn P E w0 true f ds S Q) (hq : ∀ d S', Q d S' → Q' d S') : DF E (FnX P E w0) f ds S Q' := DF.mono fnX_good h hq
theorem DFn.any {f : FuncId} {ds : List D} {S : DSt} {Q : D → DSt → Prop} (h : DFn P E w0 true f ds S Q) : DFn P E w0 x f ds S Q := by
  cases x
  · exact fun R H avs hFi hC ha => (h R H avs hFi hC ha).toW
  · exact h
theorem setAll_length : ∀ (T : List D) (L : List Nat) (vs : List D), (setAll T L vs).length = T.length
  | T, i :: L, v :: vs => by rw [setAll, setAll_length, List.length_set]
  | T, [], _ => by simp [setAll]
  | T, _ :: _, [] => by simp [setAll]
theorem mkRow_length (n : Nat) (L : List Nat) (vs : List D) : (mkRow n L vs).length = n := by rw [mkRow, setAll_length, List.length_replicate]
theorem rpL_any {R : Fz} : ∀ {avs : List AV}, RpL E R (List.replicate avs.length .any) avs
  | [] => rpL_nil
  | v :: avs => rpL_cons rp_any rpL_any
theorem rpL_row {R : Fz} {T : List D} {avs : List AV} (h : RpL E R T avs) (L : List Nat) : RpL E R (mkRow T.length L (liveOf T L)) avs := by
  have main : ∀ (L : List Nat) (T0 : List D), T0.length = T.length → RpL E R T0 avs → RpL E R (setAll T0 L (liveOf T L)) avs := by
    intro L
    induction L with
    | nil => intro T0 hl h0; simpa [setAll, liveOf] using h0
    | cons i L ih =>
      intro T0 hl h0
      simp only [liveOf, setAll]
      refine ih _ (by rw [List.length_set, hl]) ?_
      by_cases hi : i < T.length
      · have hlen := h.length
        have := h0.set i (rpL_getD h i)
        rw [List.getD_eq_getElem?_getD (l := avs), List.getElem?_eq_getElem (by omega), Option.getD_some, List.set_getElem_self] at this
        exact this
      · rw [List.set_eq_of_length_le (by omega)]
        exact h0
  refine main L _ (by rw [List.length_replicate]) ?_
  rw [← h.length]
  exact rpL_any
theorem codeD_row {c : Code} {T : List D} {S : DSt} {Q : AExit → List D → DSt → Prop} {n : Nat} (L : List Nat) (hn : T.length = n) (h : CodeD P E w0 x c (mkRow n L (liveOf T L)) S Q) : CodeD P E w0 x c T S Q := fun R H avs F hC hT => by
  have := h R H avs F hC (by rw [← hn]; exact rpL_row hT L)
  rw [mkRow_length, ← hn] at this
  exact this
/-- LOOPS: an invariant with a number that falls. -/
theorem codeD_loop {c : Code} {Q : AExit → List D → DSt → Prop} {I : Nat → List D → DSt → Prop} {k : Nat}
    (step : ∀ n T S, T.length = k → I n T S → CodeD P E w0 x c T S fun ex T' S' => match ex with | .normal => ∃ m, m < n ∧ I m T' S' | e => Q e T' S')
    {n : Nat} {T : List D} {S : DSt} (hk : T.length = k) (h : I n T S) : CodeD P E w0 x (.loop c) T S Q := fun R H avs F hC hT => by
  refine codeF_loop (I := fun n avs H => PostL E R k (I n) avs H) (fun n avs H hI => ?_) (n := n) ⟨F, R, S, T, Fz.le_refl R, hC, hT, hk, h⟩
  obtain ⟨F1, R1, S1, T1, a, b, c1, d, e⟩ := hI
  refine (step n T1 S1 d e R1 H avs F1 b c1).mono fun ex T' H' hq => ?_
  cases ex with
  | normal =>
    obtain ⟨F2, R2, S2, T2, a2, b2, c2, d2, m, hm, e2⟩ := hq
    exact ⟨m, hm, F2, R2, S2, T2, Fz.le_trans a a2, b2, c2, by rw [d2, d], e2⟩
  | exit id =>
    obtain ⟨F2, R2, S2, T2, a2, b2, c2, d2, e2⟩ := hq
    exact ⟨F2, R2, S2, T2, Fz.le_trans a a2, b2, c2, by rw [d2, d, hk], e2⟩
  | ret =>
    obtain ⟨F2, R2, S2, T2, a2, b2, c2, d2, e2⟩ := hq
    exact ⟨F2, R2, S2, T2, Fz.le_trans a a2, b2, c2, by rw [d2, d, hk], e2⟩
theorem codeF_ops {id : Nat} {ops : Array Oper} {T : List D} {S : DSt} {Q : AExit → List D → DSt → Prop} (h : OpsD P (DF E (FnF P E w0 x)) ops ops.toList T S (Q .normal)) : CodeD P E w0 x (.region id ops false) T S Q := fun R H avs F hC hT => by
  cases x
  · exact codeW_region (opsV_ok (opsD_W F hC hT h))
  · intro hr
    obtain ⟨T', H', h1, h2⟩ := opsX_ok (opsD_X F hC hT h) hr
    exact ⟨.normal, T', H', codeW_region (by simpa using h1), h2⟩
theorem codeF_draw (hm : P.follows .mixedOrders = true) {id : Nat} {ops : Array Oper} {T : List D} {S : DSt} {Q : AExit → List D → DSt → Prop} (h : DrawD P (DF E (FnX P E w0)) ops ops.toList [] T S [] (Q .normal)) : CodeD P E w0 x (.region id ops true) T S Q := fun R H avs F hC hT => by
  have hd := drawD_ok (ds := []) (ys := []) (older := []) (Gs := []) F hC hT trivial trivial h
  have hX : CodeX P E w0 (.region id ops true) avs H (PostC E R T.length Q) := fun hr => by
    obtain ⟨T', H', h1, h2⟩ := drawW_one (drawX_ok (fun d hd => by cases hd) hd hr)
    exact ⟨.normal, T', H', codeW_draw hm (by simpa using h1), h2⟩
  cases x
  · exact hX.toW
  · exact hX
variable {loops cuts : List (Nat × List Nat)}
theorem vcD_ok (hm : P.follows .mixedOrders = true) : ∀ (c : Code) (T : List D) (S : DSt) (Q : AExit → List D → DSt → Prop), vcD P E w0 x loops cuts c T S Q → CodeD P E w0 x c T S Q
  | .skip, T, S, Q, h => fun R H avs F hC hT => codeF_end ⟨F, R, S, T, Fz.le_refl R, hC, hT, rfl, h⟩ fun _ => codeW_skip
  | .label _, T, S, Q, h => fun R H avs F hC hT => codeF_end ⟨F, R, S, T, Fz.le_refl R, hC, hT, rfl, h⟩ fun _ => codeW_label
  | .ret, T, S, Q, h => fun R H avs F hC hT => codeF_end ⟨F, R, S, T, Fz.le_refl R, hC, hT, rfl, h⟩ fun _ => codeW_ret
  | .exit id, T, S, Q, h => fun R H avs F hC hT => codeF_end ⟨F, R, S, T, Fz.le_refl R, hC, hT, rfl, h⟩ fun _ => codeW_exit
  | .region _ ops false, T, S, Q, h => codeF_ops h
  | .region _ ops true, T, S, Q, h => by
    change RegD P (DF E (FnX P E w0)) x ops T S (Q .normal) at h
    unfold RegD at h
    split at h
    · exact codeF_draw hm h
    · obtain ⟨rfl, h⟩ := h
      exact fun R H avs F hC hT => arrD_ok hm F hC hT h
  | .seq a b, T, S, Q, h => fun R H avs F hC hT => by
    simp only [vcD] at h
    have fin : CodeD P E w0 x a T S (fun ex T' S' => match ex with | .normal => CodeD P E w0 x b T' S' Q | e => Q e T' S') → CodeF P E w0 x (.seq a b) avs H (PostC E R T.length Q) := by
      intro h
      refine codeF_seq ((h R H avs F hC hT).mono fun ex T' H' hq => ?_)
      cases ex with
      | normal =>
        obtain ⟨F2, R2, S2, T2, a2, b2, c2, d2, e2⟩ := hq
        have := e2 R2 H' T' F2 b2 c2
        rw [d2] at this
        exact this.mono fun ex T' H' hq => PostL.le a2 hq
      | exit id => exact hq
      | ret => exact hq
    split at h
    · rename_i L hL
      refine fin ((vcD_ok hm a T S _ h).mono fun ex T' S' hl hq => ?_)
      cases ex with
      | normal => exact codeD_row L hl hq
      | exit id => exact hq
      | ret => exact hq
    · refine fin ((vcD_ok hm a T S _ h).mono fun ex T' S' hl hq => ?_)
      cases ex with
      | normal => exact vcD_ok hm b T' S' Q hq
      | exit id => exact hq
      | ret => exact hq
  | .cond c a b, T, S, Q, h => fun R H avs F hC hT => by
    simp only [vcD] at h
    have hr := rp_eval hT c
    unfold condD at h
    split at h
    · rename_i e
      rw [e] at hr
      simp only [Rp] at hr
      exact codeF_cond hr (vcD_ok hm a T S Q h R H avs F hC hT)
    · rename_i e
      rw [e] at hr
      simp only [Rp] at hr
      exact codeF_cond hr (vcD_ok hm b T S Q h R H avs F hC hT)
    · exact h.elim
  | .block id c, T, S, Q, h => fun R H avs F hC hT => by
    refine codeF_block ((vcD_ok hm c T S _ h R H avs F hC hT).mono fun ex T' H' hq => ?_)
    cases ex with
    | normal => exact hq
    | ret => exact hq
    | exit id' =>
      obtain ⟨F2, R2, S2, T2, a2, b2, c2, d2, e2⟩ := hq
      simp only [blockD] at e2
      simp only [blockQ]
      split at e2
      · rename_i e; rw [if_pos e]; exact ⟨F2, R2, S2, T2, a2, b2, c2, d2, e2⟩
      · rename_i e; rw [if_neg e]; exact ⟨F2, R2, S2, T2, a2, b2, c2, d2, e2⟩
  | .loop c, T, S, Q, h => by
    simp only [vcD] at h
    split at h
    · rename_i L hL; exact codeD_row L rfl h
    · exact h
  | .rangeFunc .., T, S, Q, h => h.elim
  | .scope .., T, S, Q, h => h.elim
  | .goto .., T, S, Q, h => h.elim
  | .refuse .., T, S, Q, h => h.elim
theorem resultD_ok {R : Fz} {S : DSt} {H : AHeap} {T : List D} {avs : List AV} (hC : Conf E R S H) (hT : RpL E R T avs) : ∀ {l : List ResultVar} {K : List D → Prop} {K' : List AV → Prop}, (∀ ds vs, RpL E R ds vs → K ds → K' vs) → resultD P S T l K → resultW P E H avs l K'
  | [], K, K', hk, h => hk [] [] rpL_nil h
  | .tmp t :: l, K, K', hk, h => by
    have := resultD_ok (l := l) (K' := fun vs => K' (avs.getD t undefA :: vs)) hC hT (fun ds vs hr hK => hk (T.getD t undefD :: ds) (avs.getD t undefA :: vs) (rpL_cons (rpL_getD hT t) hr) hK) h
    exact this
  | .cell a t :: l, K, K', hk, h => by
    simp only [resultD] at h
    unfold optW at h
    split at h
    · rename_i d hd
      have ha := rpL_getD hT a
      obtain ⟨v, h1, h2⟩ := load_ok hC ha hd
      have h2 := h2 H (hC.agr _)
      have := resultD_ok (l := l) (K' := fun vs => K' (v :: vs)) hC hT (fun ds vs hr hK => hk (d :: ds) (v :: vs) (rpL_cons h1 hr) hK) h
      simp only [resultW]
      unfold loadV at h2
      split at h2
      · rename_i o i e
        simp only [e, h2, optW_some]
        exact this
      · cases h2
    · exact h.elim
theorem rp_pack {R : Fz} {ds : List D} {vs : List AV} (h : RpL E R ds vs) : Rp E R (packD ds) (packA vs) := by
  rcases ds with _ | ⟨d, _ | ⟨d', ds⟩⟩
  · simp only [RpL] at h; subst h; exact rp_undef
  · simp only [RpL] at h
    obtain ⟨v, _, rfl, h1, rfl⟩ := h
    exact h1
  · have h' := h
    simp only [RpL] at h
    obtain ⟨v, _, rfl, h1, v2, vs', rfl, h2, h3⟩ := h
    show Rp E R (.tup (d :: d' :: ds)) (.tup (v :: v2 :: vs'))
    simp only [Rp]
    exact ⟨_, rfl, h'⟩
/-- A CALL, by its body. -/
theorem fnD_of_code {f : FuncId} {fn : Func} {c : Code} (hfn : P.funcs[f]? = some fn) (hb : fn.body = some c) {ds : List D} {S : DSt} {Q : D → DSt → Prop}
    (h : CodeD P E w0 x c (ds ++ List.replicate (fn.ntmps - ds.length) undefD) S (retD P fn (FinD E Q))) : DFn P E w0 x f ds S Q := fun R H avs F hC ha => by
  have hrow : RpL E R (ds ++ List.replicate (fn.ntmps - ds.length) undefD) (avs ++ List.replicate (fn.ntmps - avs.length) undefA) := by
    refine ha.append ?_
    rw [ha.length]
    generalize fn.ntmps - ds.length = m
    induction m with
    | zero => exact rpL_nil
    | succ m ih => exact rpL_cons rp_undef ih
  have h' : CodeF P E w0 x c (avs ++ List.replicate (fn.ntmps - avs.length) undefA) H (retQ P E fn (PostD E R Q)) := by
    refine (h R H _ F hC hrow).mono fun ex T' H' hq => ?_
    obtain ⟨F2, R2, S2, T2, a2, b2, c2, d2, e2⟩ := hq
    have go : ∀ {l : List ResultVar}, resultD P S2 T2 l (fun vs => FinD E Q (packD vs) S2) → resultW P E H' T' l fun vs => PostD E R Q (packA vs) H' := fun h => resultD_ok b2 c2 (fun ds vs hr hK => by
      obtain ⟨R', S', d', k1, k2, k3, k4⟩ := hK R2 H' _ b2 (rp_pack hr)
      exact ⟨F2, R', S', d', Fz.le_trans a2 k1, k2, k3, k4⟩) h
    cases ex with
    | normal => exact go e2
    | ret => exact go e2
    | exit id => exact e2
  cases x
  · exact fnW_of_code hfn hb h'
  · exact fnX_of_code hfn hb h'
theorem fnD_of_vc (loops cuts : List (Nat × List Nat)) (hm : P.follows .mixedOrders = true) {f : FuncId} {fn : Func} {c : Code} (hfn : P.funcs[f]? = some fn) (hb : fn.body = some c) {ds : List D} {S : DSt} {Q : D → DSt → Prop} {V : Prop}
    (e : vcD P E w0 x loops cuts c (ds ++ List.replicate (fn.ntmps - ds.length) undefD) S (retD P fn (FinD E Q)) = V) (h : V) : DFn P E w0 x f ds S Q :=
  fnD_of_code hfn hb (vcD_ok hm _ _ _ _ (e ▸ h))
theorem codeD_of_vc (loops cuts : List (Nat × List Nat)) (hm : P.follows .mixedOrders = true) {c : Code} {T : List D} {S : DSt} {Q : AExit → List D → DSt → Prop} {V : Prop} (e : vcD P E w0 x loops cuts c T S Q = V) (h : V) : CodeD P E w0 x c T S Q :=
  vcD_ok hm _ _ _ _ (e ▸ h)
theorem FinD.here {Q : D → DSt → Prop} {d : D} {S : DSt} (h : Q d S) : FinD E Q d S := fun R H v hC hd => ⟨R, S, d, Fz.le_refl R, hC, hd, h⟩
theorem FinD.less {Q : D → DSt → Prop} {d : D} {S S' : DSt} (hs : S'.le S) (h : FinD E Q d S') : FinD E Q d S := fun R H v hC hd => h R H v (hC.less hs) hd
theorem FinD.mono {Q Q' : D → DSt → Prop} {d : D} {S : DSt} (h : FinD E Q d S) (hq : ∀ d S, Q d S → Q' d S) : FinD E Q' d S := fun R H v hC hd => by
  obtain ⟨R', S', d', a, b, c, e⟩ := h R H v hC hd
  exact ⟨R', S', d', a, b, c, hq _ _ e⟩
theorem FinD.freeze {Q : D → DSt → Prop} {S : DSt} {k : Nat} {o : DObj} (hk : S k = some o) {i len cap : Nat} {ex : Bool} {sz : Nat} (hsz : o.sz = sz) (hl : i + len ≤ o.rows.length) (hc : len ≤ cap)
    (h : FinD E Q (.lst ((o.rows.drop i).take len) sz) (S.erase k)) : FinD E Q (.raw k i len cap ex sz) S := fun R H v hC hd => by
  obtain ⟨h1, h2⟩ := hC.freeze hk
  obtain ⟨R', S', d', a, b, c, e⟩ := h _ H v h1 (rp_frozen hC hk hd hsz hl hc)
  exact ⟨R', S', d', Fz.le_trans h2 a, b, c, e⟩
/-- Within a row of answers. -/
theorem FinD.freezeT {Q : D → DSt → Prop} {S : DSt} {k : Nat} {o : DObj} (hk : S k = some o) {i len cap : Nat} {ex : Bool} {sz : Nat} (hsz : o.sz = sz) (hl : i + len ≤ o.rows.length) (hc : len ≤ cap) {lp lq : List D}
    (h : FinD E Q (.tup (lp ++ .lst ((o.rows.drop i).take len) sz :: lq)) (S.erase k)) : FinD E Q (.tup (lp ++ .raw k i len cap ex sz :: lq)) S := fun R H v hC hd => by
  obtain ⟨h1, h2⟩ := hC.freeze hk
  simp only [Rp] at hd
  obtain ⟨vs, rfl, hv⟩ := hd
  obtain ⟨v1, v2, rfl, g1, g2⟩ := rpL_split hv
  simp only [RpL] at g2
  obtain ⟨w, ws, rfl, g3, g4⟩ := g2
  obtain ⟨R', S', d', a, b, c, e⟩ := h _ H (.tup (v1 ++ w :: ws)) h1 (by
    simp only [Rp]
    exact ⟨_, rfl, (RpL.le h2 _ _ g1).append (rpL_cons (rp_frozen hC hk g3 hsz hl hc) (RpL.le h2 _ _ g4))⟩)
  exact ⟨R', S', d', Fz.le_trans h2 a, b, c, e⟩
/-- No slice is an empty one. -/
theorem FinD.nil {Q : D → DSt → Prop} {S : DSt} {sz : Nat} (h : FinD E Q (.lst [] sz) S) : FinD E Q .nilSlc S := fun R H v hC hd => h R H v hC (by simp only [Rp] at hd ⊢; exact .inl ⟨trivial, hd⟩)
theorem FinD.nilT {Q : D → DSt → Prop} {S : DSt} {sz : Nat} {lp lq : List D} (h : FinD E Q (.tup (lp ++ .lst [] sz :: lq)) S) : FinD E Q (.tup (lp ++ .nilSlc :: lq)) S := fun R H v hC hd => h R H v hC (by
  simp only [Rp] at hd ⊢
  obtain ⟨vs, rfl, hv⟩ := hd
  obtain ⟨v1, v2, rfl, g1, g2⟩ := rpL_split hv
  simp only [RpL] at g2
  obtain ⟨w, ws, rfl, g3, g4⟩ := g2
  exact ⟨_, rfl, g1.append (rpL_cons (by simp only [Rp] at g3 ⊢; exact .inl ⟨trivial, g3⟩) g4)⟩)
/-- A function that turns nothing of its caller's: its answer. -/
def Pure (P : Program) (E : Env) (w0 : World) (f : FuncId) (ds : List D) (d : D) : Prop := ∀ x S, DFn P E w0 x f ds S fun d' S' => d' = d ∧ S' = S
theorem Pure.use {f : FuncId} {ds : List D} {d : D} (h : Pure P E w0 f ds d) {S : DSt} {K : D → DSt → Prop} (hk : K d S) : DFn P E w0 x f ds S K := (h x S).use fun d' S' ⟨a, b⟩ => by subst a b; exact hk
theorem Pure.useX {f : FuncId} {ds : List D} {d : D} (h : Pure P E w0 f ds d) {S : DSt} {K : D → DSt → Prop} (hk : K d S) : DF E (FnX P E w0) f ds S K := (h true S).toX fun d' S' ⟨a, b⟩ => by subst a b; exact hk
end
end Go.Am
end

section
open Go.Proofs Go Go.Am
namespace Go.Proofs.Ytchnpgddpaonhaa.d
set_option linter.unusedVariables false
set_option maxRecDepth 100000
theorem mixed : Try.prog.follows .mixedOrders = true := by kernel_rfl
abbrev t_api_Field : TypeId := 48
abbrev f_law13_ImageUnlike : FuncId := 3
abbrev f_kit_Bulk : FuncId := 9
abbrev f_law13_works : FuncId := 10
abbrev f_image_Encode : FuncId := 11
abbrev f_kit_SameModule : FuncId := 12
abbrev f_image_structure : FuncId := 22
abbrev f_image_body : FuncId := 23
abbrev f_slices_Concat_byte : FuncId := 24
abbrev f_wire_Fixed : FuncId := 25
abbrev f_wire_Sum : FuncId := 26
abbrev f_kit_SameType : FuncId := 27
abbrev f_kit_SameRoutine : FuncId := 28
abbrev f_ops_Encode : FuncId := 42
abbrev f_slices_ContainsFunc_api_Field : FuncId := 43
abbrev f_image_structure_1 : FuncId := 44
abbrev f_image_mayType : FuncId := 45
abbrev f_slices_ContainsFunc_string : FuncId := 46
abbrev f_image_structure_2 : FuncId := 47
abbrev f_image_mayFunc : FuncId := 48
abbrev f_image_writer_number : FuncId := 49
abbrev f_image_writer_put : FuncId := 50
abbrev f_image_writer_text : FuncId := 51
abbrev f_image_writer_numbers : FuncId := 52
abbrev f_slices_Grow_byte : FuncId := 53
abbrev f_kit_SameFields : FuncId := 54
abbrev f_kit_SameInts : FuncId := 55
abbrev f_wire_Wide : FuncId := 56
abbrev f_ops_layout : FuncId := 64
abbrev f_ops_put : FuncId := 65
abbrev f_ops_number : FuncId := 66
abbrev f_ops_arms : FuncId := 67
abbrev f_slices_IndexFunc_api_Field : FuncId := 68
abbrev f_image_there : FuncId := 69
abbrev f_image_mayType_1 : FuncId := 70
abbrev f_slices_IndexFunc_string : FuncId := 71
abbrev f_image_mayFunc_1 : FuncId := 72
abbrev f_slices_ContainsFunc_int : FuncId := 73
abbrev f_ops_All : FuncId := 74
abbrev f_slices_ContainsFunc_api_Instr : FuncId := 75
abbrev f_image_mayFunc_2 : FuncId := 76
abbrev f_ops_Takes : FuncId := 77
abbrev f_wire_Put : FuncId := 78
abbrev f_ops_between : FuncId := 80
abbrev f_ops_fits : FuncId := 81
abbrev f_slices_IndexFunc_int : FuncId := 82
abbrev f_ops_Decode : FuncId := 83
abbrev f_slices_IndexFunc_api_Instr : FuncId := 84
abbrev f_ops_Size : FuncId := 85
abbrev f_ops_of : FuncId := 86
abbrev f_ops_effect_gives : FuncId := 87
abbrev f_ops_effect_given : FuncId := 88
abbrev f_slices_Clone_int : FuncId := 89
abbrev f_ops_made : FuncId := 90
abbrev f_ops_plain : FuncId := 91
abbrev f_ops_between_1 : FuncId := 92
abbrev f_ops_fits_1 : FuncId := 93
abbrev f_word_Fits : FuncId := 94
abbrev f_ops_reader_read : FuncId := 95
abbrev f_ops_typed : FuncId := 96
abbrev f_word_Bits : FuncId := 97
abbrev f_word_Wrap : FuncId := 98
abbrev f_slices_Contains_uint8 : FuncId := 99
abbrev f_slices_Index_uint8 : FuncId := 100
end Go.Proofs.Ytchnpgddpaonhaa.d
end

section
open Go.Proofs Go Go.Am
namespace Go.Proofs.Ytchnpgddpaonhaa.d
set_option linter.unusedVariables false
set_option maxRecDepth 100000
/- trammel/word.Bits -/
def lo_word_Bits : List (Nat × List Nat) := []
def cu_word_Bits : List (Nat × List Nat) := []
def V_word_Bits (E : Env) (w0 : World) (x : Bool) (Q : D → DSt → Prop) (a0 : D) (S : DSt) : Prop :=
  optW (binI .eql a0 (.int .u8 1)) fun v0 =>
  condD v0
  (Q (.int .i64 8) S)
  (optW (binI .eql a0 (.int .u8 2)) fun v1 =>
  condD v1
  (Q (.int .i64 32) S)
  (optW (binI .eql a0 (.int .u8 3)) fun v2 =>
  condD v2
  (Q (.int .i64 64) S)
  (Q (.int .i64 0) S)))
theorem V_word_Bits_ok {E : Env} {w0 : World} {x : Bool} {Q : D → DSt → Prop} {a0 : D} {S : DSt} (h : V_word_Bits E w0 x (FinD E Q) a0 S) : DFn Try.prog E w0 x f_word_Bits [a0] S Q :=
  fnD_of_vc lo_word_Bits cu_word_Bits (fn := Try.f97) (c := Try.f97.body.getD .skip) mixed Try.func97 (by kernel_rfl) (by kernel_rfl) h

/- trammel/word.Wrap -/
def lo_word_Wrap : List (Nat × List Nat) := []
def cu_word_Wrap : List (Nat × List Nat) := []
def V_word_Wrap (E : Env) (w0 : World) (x : Bool) (Q : D → DSt → Prop) (a0 a1 : D) (S : DSt) : Prop :=
  optW (binI .eql a0 (.int .u8 1)) fun v0 =>
  condD v0
  (optW (convI .i8 a1) fun v1 =>
  optW (convI .i64 v1) fun v2 =>
  Q v2 S)
  (optW (binI .eql a0 (.int .u8 2)) fun v3 =>
  condD v3
  (optW (convI .i32 a1) fun v4 =>
  optW (convI .i64 v4) fun v5 =>
  Q v5 S)
  (optW (binI .eql a0 (.int .u8 3)) fun v6 =>
  condD v6
  (Q a1 S)
  (Q (.int .i64 0) S)))
theorem V_word_Wrap_ok {E : Env} {w0 : World} {x : Bool} {Q : D → DSt → Prop} {a0 a1 : D} {S : DSt} (h : V_word_Wrap E w0 x (FinD E Q) a0 a1 S) : DFn Try.prog E w0 x f_word_Wrap [a0, a1] S Q :=
  fnD_of_vc lo_word_Wrap cu_word_Wrap (fn := Try.f98) (c := Try.f98.body.getD .skip) mixed Try.func98 (by kernel_rfl) (by kernel_rfl) h

/- trammel/word.Fits -/
def lo_word_Fits : List (Nat × List Nat) := []
def cu_word_Fits : List (Nat × List Nat) := []
def V_word_Fits (E : Env) (w0 : World) (x : Bool) (Q : D → DSt → Prop) (a0 a1 : D) (S : DSt) : Prop :=
  DFn Try.prog E w0 x f_word_Bits [a0] S fun v0 S1 =>
  optW (binI .gtr v0 (.int .i64 0)) fun v2 =>
  optW (valGD (wantsD v2 true) (some a0)) fun v3 =>
  optW (valGD (wantsD v2 true) (some a1)) fun v4 =>
  guardD (wantsD v2 true) (fun K => DFn Try.prog E w0 x f_word_Wrap [v3, v4] S1 K) S1 fun v5 S6 =>
  optW (valGD (wantsD v2 true) (some a1)) fun v7 =>
  optW (valGD (wantsD v2 true) (binI .eql v5 v7)) fun v8 =>
  optW (pickD v2 v8 (.bool false)) fun v9 =>
  Q v9 S6
theorem V_word_Fits_ok {E : Env} {w0 : World} {x : Bool} {Q : D → DSt → Prop} {a0 a1 : D} {S : DSt} (h : V_word_Fits E w0 x (FinD E Q) a0 a1 S) : DFn Try.prog E w0 x f_word_Fits [a0, a1] S Q :=
  fnD_of_vc lo_word_Fits cu_word_Fits (fn := Try.f94) (c := Try.f94.body.getD .skip) mixed Try.func94 (by kernel_rfl) (by kernel_rfl) h

/- trammel/wire.Fixed -/
def lo_wire_Fixed : List (Nat × List Nat) := [(10, [0, 5, 15, 16])]
def cu_wire_Fixed : List (Nat × List Nat) := []
noncomputable def L_wire_Fixed_0 : Code := (codeAt [1, 1, 1, 0, 1, 0, 0] (Try.f25.body.getD .skip))
def K_wire_Fixed_0 (E : Env) (w0 : World) (x : Bool) (Q : D → DSt → Prop) : AExit → List D → DSt → Prop :=
  (blockD 0 (seqD Try.prog E w0 x lo_wire_Fixed cu_wire_Fixed (codeAt [1, 1, 1, 1] (Try.f25.body.getD .skip)) (retD Try.prog Try.f25 Q)))
def B_wire_Fixed_0 (E : Env) (w0 : World) (x : Bool) (N0 : D → D → D → D → DSt → Prop) (Q : D → DSt → Prop) (x0 x5 x15 x16 : D) (S : DSt) : Prop :=
  optW (binI .lss x16 x15) fun v6 =>
  condD v6
  (optW (binI .mul (.int .i64 8) x16) fun v7 =>
  optW (binI .shr x0 v7) fun v8 =>
  optW (convI .u8 v8) fun v9 =>
  optW (idxSl 1 x5 x16) fun v10 =>
  storeD S 1 v10 v9 fun v11 S12 =>
  optW (binI .add x16 (.int .i64 1)) fun v13 =>
  N0 x0 x5 x15 v13 S12)
  (Q x5 S)
theorem B_wire_Fixed_0_ok {E : Env} {w0 : World} {x : Bool} {N0 : D → D → D → D → DSt → Prop} {Q : D → DSt → Prop} {x0 x5 x15 x16 : D} {S : DSt} (h : B_wire_Fixed_0 E w0 x N0 Q x0 x5 x15 x16 S) :
    CodeD Try.prog E w0 x L_wire_Fixed_0 (mkRow 29 [0, 5, 15, 16] [x0, x5, x15, x16]) S (loopKD (fun T S => N0 (T.getD 0 undefD) (T.getD 5 undefD) (T.getD 15 undefD) (T.getD 16 undefD) S) (K_wire_Fixed_0 E w0 x Q)) := codeD_of_vc lo_wire_Fixed cu_wire_Fixed mixed (by kernel_rfl) h
theorem loop_wire_Fixed_0 {E : Env} {w0 : World} {x : Bool} {Q : D → DSt → Prop} (I : Nat → D → D → D → D → DSt → Prop)
    (step : ∀ n x0 x5 x15 x16 S, I n x0 x5 x15 x16 S → B_wire_Fixed_0 E w0 x (fun x0 x5 x15 x16 S => ∃ m, m < n ∧ I m x0 x5 x15 x16 S) Q x0 x5 x15 x16 S)
    {n : Nat} {x0 x5 x15 x16 : D} {S : DSt} (h : I n x0 x5 x15 x16 S) : CodeD Try.prog E w0 x (.loop L_wire_Fixed_0) (mkRow 29 [0, 5, 15, 16] [x0, x5, x15, x16]) S (K_wire_Fixed_0 E w0 x Q) :=
  codeD_loop (k := 29) (n := n) (I := fun n T S => I n (T.getD 0 undefD) (T.getD 5 undefD) (T.getD 15 undefD) (T.getD 16 undefD) S) (fun n T S hl hI => codeD_row [0, 5, 15, 16] hl (CodeD.mono (B_wire_Fixed_0_ok (step n _ _ _ _ S hI)) fun ex T' S' _ hq => by cases ex <;> exact hq)) (mkRow_length ..) (Eq.mp (by kernel_rfl) h)
def V_wire_Fixed (E : Env) (w0 : World) (x : Bool) (Q : D → DSt → Prop) (a0 a1 : D) (S : DSt) : Prop :=
  optW (binI .lss a1 (.int .i64 1)) fun v0 =>
  optW (valGD (wantsD v0 false) (some a1)) fun v1 =>
  optW (valGD (wantsD v0 false) (binI .gtr v1 (.int .i64 8))) fun v2 =>
  optW (pickD v0 (.bool true) v2) fun v3 =>
  condD v3
  (Q .nilSlc S)
  (makeD S 1 1 [(.int .u8 0)] a1 a1 fun v4 S5 =>
  CodeD Try.prog E w0 x (.loop L_wire_Fixed_0) (mkRow 29 [0, 5, 15, 16] [a0, v4, a1, (.int .i64 0)]) S5 (K_wire_Fixed_0 E w0 x Q))
theorem V_wire_Fixed_ok {E : Env} {w0 : World} {x : Bool} {Q : D → DSt → Prop} {a0 a1 : D} {S : DSt} (h : V_wire_Fixed E w0 x (FinD E Q) a0 a1 S) : DFn Try.prog E w0 x f_wire_Fixed [a0, a1] S Q :=
  fnD_of_vc lo_wire_Fixed cu_wire_Fixed (fn := Try.f25) (c := Try.f25.body.getD .skip) mixed Try.func25 (by kernel_rfl) (by kernel_rfl) h

/- trammel/wire.Wide -/
def lo_wire_Wide : List (Nat × List Nat) := [(20, [0, 1, 2, 9, 29, 30])]
def cu_wire_Wide : List (Nat × List Nat) := []
noncomputable def L_wire_Wide_0 : Code := (codeAt [1, 1, 1, 0, 1, 0, 0] (Try.f56.body.getD .skip))
def K_wire_Wide_0 (E : Env) (w0 : World) (x : Bool) (Q : D → DSt → Prop) : AExit → List D → DSt → Prop :=
  (blockD 1 (seqD Try.prog E w0 x lo_wire_Wide cu_wire_Wide (codeAt [1, 1, 1, 1] (Try.f56.body.getD .skip)) (retD Try.prog Try.f56 Q)))
def B_wire_Wide_0 (E : Env) (w0 : World) (x : Bool) (N0 : D → D → D → D → D → D → DSt → Prop) (Q : D → DSt → Prop) (x0 x1 x2 x9 x29 x30 : D) (S : DSt) : Prop :=
  optW (binI .lss x30 x29) fun v3 =>
  condD v3
  (optW (binI .add x1 x30) fun v4 =>
  optW (idxSl 1 x0 v4) fun v5 =>
  optW (loadSc S v5) fun v6 =>
  optW (convI .u64 v6) fun v7 =>
  optW (binI .mul (.int .i64 8) x30) fun v8 =>
  optW (binI .shl v7 v8) fun v9 =>
  optW (binI .or x9 v9) fun v10 =>
  optW (binI .add x30 (.int .i64 1)) fun v11 =>
  N0 x0 x1 x2 v10 x29 v11 S)
  (optW (binI .add x1 x2) fun v12 =>
  Q (.tup [x9, v12, (.int .i64 0)]) S)
theorem B_wire_Wide_0_ok {E : Env} {w0 : World} {x : Bool} {N0 : D → D → D → D → D → D → DSt → Prop} {Q : D → DSt → Prop} {x0 x1 x2 x9 x29 x30 : D} {S : DSt} (h : B_wire_Wide_0 E w0 x N0 Q x0 x1 x2 x9 x29 x30 S) :
    CodeD Try.prog E w0 x L_wire_Wide_0 (mkRow 50 [0, 1, 2, 9, 29, 30] [x0, x1, x2, x9, x29, x30]) S (loopKD (fun T S => N0 (T.getD 0 undefD) (T.getD 1 undefD) (T.getD 2 undefD) (T.getD 9 undefD) (T.getD 29 undefD) (T.getD 30 undefD) S) (K_wire_Wide_0 E w0 x Q)) := codeD_of_vc lo_wire_Wide cu_wire_Wide mixed (by kernel_rfl) h
theorem loop_wire_Wide_0 {E : Env} {w0 : World} {x : Bool} {Q : D → DSt → Prop} (I : Nat → D → D → D → D → D → D → DSt → Prop)
    (step : ∀ n x0 x1 x2 x9 x29 x30 S, I n x0 x1 x2 x9 x29 x30 S → B_wire_Wide_0 E w0 x (fun x0 x1 x2 x9 x29 x30 S => ∃ m, m < n ∧ I m x0 x1 x2 x9 x29 x30 S) Q x0 x1 x2 x9 x29 x30 S)
    {n : Nat} {x0 x1 x2 x9 x29 x30 : D} {S : DSt} (h : I n x0 x1 x2 x9 x29 x30 S) : CodeD Try.prog E w0 x (.loop L_wire_Wide_0) (mkRow 50 [0, 1, 2, 9, 29, 30] [x0, x1, x2, x9, x29, x30]) S (K_wire_Wide_0 E w0 x Q) :=
  codeD_loop (k := 50) (n := n) (I := fun n T S => I n (T.getD 0 undefD) (T.getD 1 undefD) (T.getD 2 undefD) (T.getD 9 undefD) (T.getD 29 undefD) (T.getD 30 undefD) S) (fun n T S hl hI => codeD_row [0, 1, 2, 9, 29, 30] hl (CodeD.mono (B_wire_Wide_0_ok (step n _ _ _ _ _ _ S hI)) fun ex T' S' _ hq => by cases ex <;> exact hq)) (mkRow_length ..) (Eq.mp (by kernel_rfl) h)
def J_wire_Wide_0 (E : Env) (w0 : World) (x : Bool) (Q : D → DSt → Prop) (x0 x1 x2 x11 : D) (S : DSt) : Prop :=
  condD x11
  (Q (.tup [(.int .u64 0), (.int .i64 0), (.int .i64 2)]) S)
  (optW (lenSl x0) fun v0 =>
  optW (binI .sub v0 x1) fun v1 =>
  optW (binI .gtr x2 v1) fun v2 =>
  condD v2
  (Q (.tup [(.int .u64 0), (.int .i64 0), (.int .i64 10)]) S)
  (CodeD Try.prog E w0 x (.loop L_wire_Wide_0) (mkRow 50 [0, 1, 2, 9, 29, 30] [x0, x1, x2, (.int .u64 0), x2, (.int .i64 0)]) S (K_wire_Wide_0 E w0 x Q)))
def V_wire_Wide (E : Env) (w0 : World) (x : Bool) (Q : D → DSt → Prop) (a0 a1 a2 : D) (S : DSt) : Prop :=
  optW (binI .lss a2 (.int .i64 1)) fun v13 =>
  condD v13
  (J_wire_Wide_0 E w0 x Q a0 a1 a2 v13 S)
  (optW (binI .gtr a2 (.int .i64 8)) fun v14 =>
  condD v14
  (J_wire_Wide_0 E w0 x Q a0 a1 a2 v14 S)
  (optW (binI .lss a1 (.int .i64 0)) fun v15 =>
  condD v15
  (J_wire_Wide_0 E w0 x Q a0 a1 a2 v15 S)
  (optW (lenSl a0) fun v16 =>
  optW (binI .gtr a1 v16) fun v17 =>
  J_wire_Wide_0 E w0 x Q a0 a1 a2 v17 S)))
theorem V_wire_Wide_ok {E : Env} {w0 : World} {x : Bool} {Q : D → DSt → Prop} {a0 a1 a2 : D} {S : DSt} (h : V_wire_Wide E w0 x (FinD E Q) a0 a1 a2 S) : DFn Try.prog E w0 x f_wire_Wide [a0, a1, a2] S Q :=
  fnD_of_vc lo_wire_Wide cu_wire_Wide (fn := Try.f56) (c := Try.f56.body.getD .skip) mixed Try.func56 (by kernel_rfl) (by kernel_rfl) h

/- trammel/ops.between -/
def lo_ops_between : List (Nat × List Nat) := []
def cu_ops_between : List (Nat × List Nat) := []
def V_ops_between (E : Env) (w0 : World) (x : Bool) (Q : D → DSt → Prop) (a0 a1 : D) (S : DSt) : Prop :=
  optW (cellsD a0) fun cs => allocD S cs fun v0 S1 =>
  optW (cellsD a1) fun cs => allocD S1 cs fun v2 S3 =>
  optW (some (.fn (.func f_ops_between_1) [] [v0, v2])) fun v4 =>
  Q v4 S3
theorem V_ops_between_ok {E : Env} {w0 : World} {x : Bool} {Q : D → DSt → Prop} {a0 a1 : D} {S : DSt} (h : V_ops_between E w0 x (FinD E Q) a0 a1 S) : DFn Try.prog E w0 x f_ops_between [a0, a1] S Q :=
  fnD_of_vc lo_ops_between cu_ops_between (fn := Try.f80) (c := Try.f80.body.getD .skip) mixed Try.func80 (by kernel_rfl) (by kernel_rfl) h

/- trammel/ops.fits -/
def lo_ops_fits : List (Nat × List Nat) := []
def cu_ops_fits : List (Nat × List Nat) := []
def V_ops_fits (E : Env) (w0 : World) (x : Bool) (Q : D → DSt → Prop) (a0 : D) (S : DSt) : Prop :=
  optW (cellsD a0) fun cs => allocD S cs fun v0 S1 =>
  optW (some (.fn (.func f_ops_fits_1) [] [v0])) fun v2 =>
  Q v2 S1
theorem V_ops_fits_ok {E : Env} {w0 : World} {x : Bool} {Q : D → DSt → Prop} {a0 : D} {S : DSt} (h : V_ops_fits E w0 x (FinD E Q) a0 S) : DFn Try.prog E w0 x f_ops_fits [a0] S Q :=
  fnD_of_vc lo_ops_fits cu_ops_fits (fn := Try.f81) (c := Try.f81.body.getD .skip) mixed Try.func81 (by kernel_rfl) (by kernel_rfl) h

/- trammel/ops.between$1 -/
def lo_ops_between_1 : List (Nat × List Nat) := []
def cu_ops_between_1 : List (Nat × List Nat) := []
def V_ops_between_1 (E : Env) (w0 : World) (x : Bool) (Q : D → DSt → Prop) (a0 c0 c1 : D) (S : DSt) : Prop :=
  optW (loadSc S c0) fun v0 =>
  optW (binI .leq v0 a0) fun v1 =>
  optW (valGD (wantsD v1 true) (some a0)) fun v2 =>
  optW (valGD (wantsD v1 true) (loadSc S c1)) fun v3 =>
  optW (valGD (wantsD v1 true) (binI .leq v2 v3)) fun v4 =>
  optW (pickD v1 v4 (.bool false)) fun v5 =>
  Q v5 S
theorem V_ops_between_1_ok {E : Env} {w0 : World} {x : Bool} {Q : D → DSt → Prop} {a0 c0 c1 : D} {S : DSt} (h : V_ops_between_1 E w0 x (FinD E Q) a0 c0 c1 S) : DFn Try.prog E w0 x f_ops_between_1 [a0, c0, c1] S Q :=
  fnD_of_vc lo_ops_between_1 cu_ops_between_1 (fn := Try.f92) (c := Try.f92.body.getD .skip) mixed Try.func92 (by kernel_rfl) (by kernel_rfl) h

/- trammel/ops.fits$1 -/
def lo_ops_fits_1 : List (Nat × List Nat) := []
def cu_ops_fits_1 : List (Nat × List Nat) := []
def V_ops_fits_1 (E : Env) (w0 : World) (x : Bool) (Q : D → DSt → Prop) (a0 c0 : D) (S : DSt) : Prop :=
  optW (loadSc S c0) fun v0 =>
  DFn Try.prog E w0 x f_word_Fits [v0, a0] S fun v1 S2 =>
  Q v1 S2
theorem V_ops_fits_1_ok {E : Env} {w0 : World} {x : Bool} {Q : D → DSt → Prop} {a0 c0 : D} {S : DSt} (h : V_ops_fits_1 E w0 x (FinD E Q) a0 c0 S) : DFn Try.prog E w0 x f_ops_fits_1 [a0, c0] S Q :=
  fnD_of_vc lo_ops_fits_1 cu_ops_fits_1 (fn := Try.f93) (c := Try.f93.body.getD .skip) mixed Try.func93 (by kernel_rfl) (by kernel_rfl) h
end Go.Proofs.Ytchnpgddpaonhaa.d
end

section
namespace Go.Am
set_option linter.unusedVariables false
set_option linter.unusedSimpArgs false
section
variable {P : Program} {E : Env} {w0 : World} {x : Bool}
@[simp] theorem oD {α : Type} (a : α) (Q : α → Prop) : optW (some a) Q = Q a := (rfl)
@[simp] theorem cdT (a b : Prop) : condD (.bool true) a b = a := (rfl)
@[simp] theorem cdF (a b : Prop) : condD (.bool false) a b = b := (rfl)
theorem cdB (t : Bool) (a b : Prop) : condD (.bool t) a b ↔ (t = true → a) ∧ (t = false → b) := by cases t <;> simp
theorem cdI (p : Prop) [Decidable p] (a b : Prop) : condD (.bool (decide p)) a b ↔ (p → a) ∧ (¬ p → b) := by
  by_cases h : p <;> simp [h]
@[simp] theorem gdT (s : (D → DSt → Prop) → Prop) (S : DSt) (Q : D → DSt → Prop) : guardD (some true) s S Q = s Q := (rfl)
@[simp] theorem gdF (s : (D → DSt → Prop) → Prop) (S : DSt) (Q : D → DSt → Prop) : guardD (some false) s S Q = Q undefD S := (rfl)
@[simp] theorem vdT (r : Option D) : valGD (some true) r = r := (rfl)
@[simp] theorem vdF (r : Option D) : valGD (some false) r = some undefD := (rfl)
@[simp] theorem wdB (b w : Bool) : wantsD (.bool b) w = some (b == w) := (rfl)
@[simp] theorem wdU (w : Bool) : wantsD undefD w = some false := (rfl)
@[simp] theorem pdB (t : Bool) (a b : D) : pickD (.bool t) a b = some (if t then a else b) := (rfl)
@[simp] theorem exD (vs : List D) (i : Nat) : extractD (.tup vs) i = vs[i]? := (rfl)
@[simp] theorem ndP (k i : Nat) : nilD (.ptr k i) = some (.ptr k i) := (rfl)
@[simp] theorem ndR (k r i sz : Nat) : nilD (.rel k r i sz) = some (.rel k r i sz) := (rfl)
@[simp] theorem ndE (row : List D) (i : Nat) : nilD (.elt row i) = some (.elt row i) := (rfl)
@[simp] theorem ndF (f : FuncId) (a b : List D) : nilD (.fn (.func f) a b) = some (.fn (.func f) a b) := (rfl)
@[simp] theorem ndI (t : TypeId) (v : D) : nilD (.ifc t v) = some (.ifc t v) := (rfl)
@[simp] theorem ofP (k i o : Nat) : offD o (.ptr k i) = some (.ptr k (i + o)) := (rfl)
@[simp] theorem ofR (k r i sz o : Nat) : offD o (.rel k r i sz) = some (.rel k r (i + o) sz) := (rfl)
@[simp] theorem ofE (row : List D) (i o : Nat) : offD o (.elt row i) = some (.elt row (i + o)) := (rfl)
@[simp] theorem paA (off n : Nat) (cs : List D) : partAg off n (.agg cs) = some (.agg ((cs.drop off).take n)) := (rfl)
@[simp] theorem psA (off : Nat) (cs : List D) : partSc off (.agg cs) = cs[off]? := (rfl)
@[simp] theorem lnN : lenSl .nilSlc = some (.int .i64 0) := (rfl)
@[simp] theorem lnL (rows : List (List D)) (sz : Nat) : lenSl (.lst rows sz) = some (.int .i64 rows.length) := (rfl)
@[simp] theorem lnE (rows more : List (List D)) (sz : Nat) : lenSl (.ext rows more sz) = some (.int .i64 rows.length) := (rfl)
@[simp] theorem lnR (k i len cap : Nat) (ex : Bool) (sz : Nat) : lenSl (.raw k i len cap ex sz) = some (.int .i64 len) := (rfl)
@[simp] theorem lnS (s : List UInt8) : lenStr (.str s) = some (.int .i64 s.length) := (rfl)
@[simp] theorem cvI (k k' : IntKind) (n : Int) : convI k (.int k' n) = some (.int k (k.wrap n)) := (rfl)
@[simp] theorem cvS (s : List UInt8) : convStr (.str s) = some (.str s) := (rfl)
@[simp] theorem unN (b : Bool) : unD .not (.bool b) = some (.bool !b) := (rfl)
@[simp] theorem unM (k : IntKind) (n : Int) : unD .neg (.int k n) = some (.int k (k.wrap (0 - n))) := (rfl)
@[simp] theorem biAdd (k : IntKind) (a b : Int) : binI .add (.int k a) (.int k b) = some (.int k (k.wrap (a + b))) := by simp [binI, intBinA, ofAV1]
@[simp] theorem biSub (k : IntKind) (a b : Int) : binI .sub (.int k a) (.int k b) = some (.int k (k.wrap (a - b))) := by simp [binI, intBinA, ofAV1]
@[simp] theorem biMul (k : IntKind) (a b : Int) : binI .mul (.int k a) (.int k b) = some (.int k (k.wrap (a * b))) := by simp [binI, intBinA, ofAV1]
@[simp] theorem biEq (k : IntKind) (a b : Int) : binI .eql (.int k a) (.int k b) = some (.bool (a == b)) := by simp [binI, intBinA, ofAV1]
@[simp] theorem biNe (k : IntKind) (a b : Int) : binI .neq (.int k a) (.int k b) = some (.bool (a != b)) := by simp [binI, intBinA, ofAV1]
@[simp] theorem biLt (k : IntKind) (a b : Int) : binI .lss (.int k a) (.int k b) = some (.bool (decide (a < b))) := by simp [binI, intBinA, ofAV1]
@[simp] theorem biLe (k : IntKind) (a b : Int) : binI .leq (.int k a) (.int k b) = some (.bool (decide (a ≤ b))) := by simp [binI, intBinA, ofAV1]
@[simp] theorem biGt (k : IntKind) (a b : Int) : binI .gtr (.int k a) (.int k b) = some (.bool (decide (a > b))) := by simp [binI, intBinA, ofAV1]
@[simp] theorem biGe (k : IntKind) (a b : Int) : binI .geq (.int k a) (.int k b) = some (.bool (decide (a ≥ b))) := by simp [binI, intBinA, ofAV1]
@[simp] theorem biAnd (k : IntKind) (a b : Int) : binI .and (.int k a) (.int k b) = some (.int k (k.wrap (BitVec.ofInt k.bits a &&& BitVec.ofInt k.bits b).toNat)) := by simp [binI, intBinA, ofAV1]
@[simp] theorem biOr (k : IntKind) (a b : Int) : binI .or (.int k a) (.int k b) = some (.int k (k.wrap (BitVec.ofInt k.bits a ||| BitVec.ofInt k.bits b).toNat)) := by simp [binI, intBinA, ofAV1]
@[simp] theorem biXor (k : IntKind) (a b : Int) : binI .xor (.int k a) (.int k b) = some (.int k (k.wrap (BitVec.ofInt k.bits a ^^^ BitVec.ofInt k.bits b).toNat)) := by simp [binI, intBinA, ofAV1]
theorem biShl (k k' : IntKind) (a : Int) (b : Int) (h : 0 ≤ b) : binI .shl (.int k a) (.int k' b) = some (.int k (k.wrap (a * 2 ^ (min b.toNat k.bits)))) := by simp only [binI]; rw [if_neg (by omega)]
theorem biShr (k k' : IntKind) (a : Int) (b : Int) (h : 0 ≤ b) : binI .shr (.int k a) (.int k' b) = some (.int k (a.fdiv (2 ^ (min b.toNat k.bits)))) := by simp only [binI]; rw [if_neg (by omega)]
@[simp] theorem bsAdd (a b : List UInt8) : binS .add (.str a) (.str b) = if ((a.length + b.length : Nat) : Int) ≤ IntKind.i64.max then some (.str (a ++ b)) else none := by
  simp only [binS, strBinA]; split <;> rfl
@[simp] theorem bsEq (a b : List UInt8) : binS .eql (.str a) (.str b) = some (.bool (a == b)) := (rfl)
@[simp] theorem bsNe (a b : List UInt8) : binS .neq (.str a) (.str b) = some (.bool !(a == b)) := (rfl)
@[simp] theorem eqE (b : Bool) : eqOp .eql (some b) = some (.bool b) := (rfl)
@[simp] theorem eqN (b : Bool) : eqOp .neq (some b) = some (.bool !b) := (rfl)
@[simp] theorem eqBB (a b : Bool) : eqBo (.bool a) (.bool b) = some (a == b) := (rfl)
@[simp] theorem clB (b : Bool) : cellsD (.bool b) = some [.bool b] := (rfl)
@[simp] theorem clI (k : IntKind) (n : Int) : cellsD (.int k n) = some [.int k n] := (rfl)
@[simp] theorem clS (s : List UInt8) : cellsD (.str s) = some [.str s] := (rfl)
@[simp] theorem clN : cellsD .nilSlc = some [.nilSlc] := (rfl)
@[simp] theorem clP : cellsD .nilPtr = some [.nilPtr] := (rfl)
@[simp] theorem clF : cellsD .nilFn = some [.nilFn] := (rfl)
@[simp] theorem clL (rows : List (List D)) (sz : Nat) : cellsD (.lst rows sz) = some [.lst rows sz] := (rfl)
@[simp] theorem clE (rows more : List (List D)) (sz : Nat) : cellsD (.ext rows more sz) = some [.ext rows more sz] := (rfl)
@[simp] theorem clR (k i len cap : Nat) (ex : Bool) (sz : Nat) : cellsD (.raw k i len cap ex sz) = some [.raw k i len cap ex sz] := (rfl)
@[simp] theorem clA (cs : List D) : cellsD (.agg cs) = some cs := (rfl)
@[simp] theorem clPt (k i : Nat) : cellsD (.ptr k i) = some [.ptr k i] := (rfl)
@[simp] theorem clFn (f : Fn) (a b : List D) : cellsD (.fn f a b) = some [.fn f a b] := (rfl)
@[simp] theorem clIf (t : TypeId) (v : D) : cellsD (.ifc t v) = some [.ifc t v] := (rfl)
@[simp] theorem agS (cs : List D) : aggD (some cs) = some (.agg cs) := (rfl)
@[simp] theorem fiN (cs : List D) : fillD cs [] = some cs := (rfl)
@[simp] theorem frN (sz : Nat) (rows : List (List D)) : fillR sz rows [] = some rows := (rfl)
@[simp] theorem lsE (row : List D) (i : Nat) (S : DSt) : loadSc S (.elt row i) = row[i]? := (rfl)
@[simp] theorem laE (row : List D) (i n : Nat) (S : DSt) : loadAg S n (.elt row i) = if 0 < n ∧ i + n ≤ row.length then some (.agg ((row.drop i).take n)) else none := (rfl)
@[simp] theorem mxD (k : IntKind) (a b : Int) : minMaxD true [.int k a, .int k b] = some (.int k (if b > a then b else a)) := (rfl)
@[simp] theorem mnD (k : IntKind) (a b : Int) : minMaxD false [.int k a, .int k b] = some (.int k (if b < a then b else a)) := (rfl)
theorem fwP (k i : Nat) (S S' : DSt) : footW (.ptr k i) S S' = (S' k = S k) := (rfl)
theorem idxL {rows : List (List D)} {sz i : Nat} {row : List D} (h : rows[i]? = some row) : idxSl sz (.lst rows sz) (.int .i64 (i : Int)) = some (.elt row 0) := by
  simp only [idxSl]
  rw [if_pos ⟨by trivial, by omega⟩, Int.toNat_natCast, h]
theorem idxE {rows more : List (List D)} {sz i : Nat} {row : List D} (h : rows[i]? = some row) : idxSl sz (.ext rows more sz) (.int .i64 (i : Int)) = some (.elt row 0) := by
  simp only [idxSl]
  rw [if_pos ⟨by trivial, by omega⟩, Int.toNat_natCast, h]
theorem idxR {k i len cap sz j : Nat} {ex : Bool} (h : j < len) : idxSl sz (.raw k i len cap ex sz) (.int .i64 (j : Int)) = some (.rel k (i + j) 0 sz) := by
  simp only [idxSl]
  rw [if_pos ⟨by trivial, by omega, by omega⟩, Int.toNat_natCast]
theorem idxS {s : List UInt8} {i : Nat} {b : UInt8} (h : s[i]? = some b) : idxStr (.str s) (.int .i64 (i : Int)) = some (.int .u8 b.toNat) := by
  simp only [idxStr]
  rw [if_pos (by omega), Int.toNat_natCast, h]
theorem DSt.fresh {S : DSt} {j k : Nat} {o : DObj} (h : (S.set j o) k = Option.none) : k ≠ j ∧ S k = Option.none := by
  unfold DSt.set at h
  split at h
  · cases h
  · rename_i e; exact ⟨e, h⟩
theorem rowAt_ptr {S : DSt} {k i sz : Nat} {cs : List D} {acs : List AV} (h : S k = some ⟨sz, [cs], acs⟩) : rowAt S (.ptr k i) = some (cs, i) := by
  simp only [rowAt, h]
theorem ldP {S : DSt} {k i sz : Nat} {cs : List D} {acs : List AV} (h : S k = some ⟨sz, [cs], acs⟩) : loadSc S (.ptr k i) = cs[i]? := by simp only [loadSc, rowAt_ptr h]
theorem laP {S : DSt} {k i n sz : Nat} {cs : List D} {acs : List AV} (h : S k = some ⟨sz, [cs], acs⟩) (hn : 0 < n ∧ i + n ≤ cs.length) : loadAg S n (.ptr k i) = some (.agg ((cs.drop i).take n)) := by
  simp only [loadAg, rowAt_ptr h]; rw [if_pos hn]
theorem stP {S : DSt} {k i n sz : Nat} {cs ds : List D} {acs : List AV} {v : D} {K : D → DSt → Prop} (h : S k = some ⟨sz, [cs], acs⟩) (hv : cellsD v = some ds) (hn : ds.length = n ∧ 0 < n ∧ i + n ≤ cs.length)
    (hK : ∀ acs, K undefD (S.set k ⟨sz, [setManyD cs i ds], acs⟩)) : storeD S n (.ptr k i) v K := by
  simp only [storeD, hv, h]
  rw [if_pos ⟨hn.1, hn.2.1⟩, if_pos hn.2.2]
  exact hK
theorem stR {S : DSt} {k r i n sz : Nat} {rows : List (List D)} {row ds : List D} {acs : List AV} {v : D} {K : D → DSt → Prop} (h : S k = some ⟨sz, rows, acs⟩) (hr : rows[r]? = some row) (hv : cellsD v = some ds) (hn : ds.length = n ∧ 0 < n ∧ i + n ≤ row.length)
    (hK : ∀ acs, K undefD (S.set k ⟨sz, rows.set r (setManyD row i ds), acs⟩)) : storeD S n (.rel k r i sz) v K := by
  simp only [storeD, hv, h, hr]
  rw [if_pos ⟨hn.1, hn.2.1⟩, if_pos (by trivial), if_pos hn.2.2]
  exact hK
theorem DSt.set_in (S : DSt) {k l : Nat} (h : k ≠ l) (a b c : DObj) : ((S.set k a).set l b).set k c = (S.set k c).set l b := by
  rw [DSt.set_comm S h, DSt.set_set, DSt.set_comm S h]
theorem DSt.le_new {S : DSt} {k : Nat} {o : DObj} (h : S k = Option.none) : S.le (S.set k o) := DSt.le_set (DSt.le_refl S) h
def ones (l : List D) : List (List D) := l.map fun d => [d]
@[simp] theorem ones_length (l : List D) : (ones l).length = l.length := List.length_map _
theorem ones_get {l : List D} {i : Nat} {d : D} (h : l[i]? = some d) : (ones l)[i]? = some [d] := by simp only [ones, List.getElem?_map, h]; rfl
/-- A slice that the run makes to grow: none at first; then all that an object of its own holds. -/
def Grw (S0 : DSt) (t : D) (rows : List (List D)) (sz : Nat) (S : DSt) : Prop :=
  (t = .nilSlc ∧ rows = [] ∧ S = S0) ∨ ∃ k acs, S0 k = Option.none ∧ t = .raw k 0 rows.length rows.length false sz ∧ S = S0.set k ⟨sz, rows, acs⟩
theorem Grw.nil (S : DSt) (sz : Nat) : Grw S .nilSlc [] sz S := .inl ⟨rfl, rfl, rfl⟩
theorem Grw.le {S0 S : DSt} {t : D} {rows : List (List D)} {sz : Nat} (h : Grw S0 t rows sz S) : S0.le S := by
  rcases h with ⟨_, _, rfl⟩ | ⟨k, acs, h, _, rfl⟩
  · exact DSt.le_refl _
  · exact DSt.le_new h
theorem Grw.len {S0 S : DSt} {t : D} {rows : List (List D)} {sz : Nat} (h : Grw S0 t rows sz S) : lenSl t = some (.int .i64 rows.length) := by
  rcases h with ⟨rfl, rfl, rfl⟩ | ⟨k, acs, h, rfl, rfl⟩ <;> rfl
theorem Grw.push {S0 S : DSt} {t : D} {rows : List (List D)} {sz bytes : Nat} (h : Grw S0 t rows sz S) {v : D} {news : List (List D)} (hv : rowsS S sz v = some news) (hb : 0 < bytes ∧ (2 * (rows.length + news.length) + 768) * bytes ≤ 2 ^ 47) {K : D → DSt → Prop}
    (hK : ∀ t' S', Grw S0 t' (rows ++ news) sz S' → K t' S') : appendD S sz bytes t v K := by
  simp only [appendD, hv]
  rcases h with ⟨rfl, rfl, rfl⟩ | ⟨k, acs, h, rfl, rfl⟩
  · simp only [growD]
    by_cases hn : news = []
    · rw [if_pos hn]
      exact hK _ _ (.inl ⟨rfl, by rw [hn]; rfl, rfl⟩)
    · rw [if_neg hn]
      refine ⟨⟨hb.1, by simpa using hb.2⟩, .inr fun k acs hk => hK _ _ (.inr ⟨k, acs, hk, ?_, ?_⟩)⟩ <;> simp
  · simp only [growD]
    by_cases hn : news = []
    · rw [if_pos hn]
      refine hK _ _ (.inr ⟨k, acs, h, ?_, ?_⟩) <;> simp [hn]
    · rw [if_neg hn, DSt.set_same]
      simp only
      rw [if_pos ⟨by trivial, by trivial, by omega⟩]
      refine ⟨hb, .inr fun k' acs' hk' => ?_⟩
      rw [DSt.erase_set _ _ _ h] at hk' ⊢
      refine hK _ _ (.inr ⟨k', acs', hk', ?_, ?_⟩) <;> simp
theorem Grw.swap {S0 S1 S : DSt} {t u : D} {r q : List (List D)} {s z : Nat} (h : Grw S0 t r s S1) (h' : Grw S1 u q z S) : ∃ S2, Grw S0 u q z S2 ∧ Grw S2 t r s S := by
  rcases h with ⟨rfl, rfl, rfl⟩ | ⟨k, acs, hk, rfl, rfl⟩
  · exact ⟨S, h', .inl ⟨rfl, rfl, rfl⟩⟩
  · rcases h' with ⟨rfl, rfl, rfl⟩ | ⟨l, bcs, hl, rfl, rfl⟩
    · exact ⟨S0, .inl ⟨rfl, rfl, rfl⟩, .inr ⟨k, acs, hk, rfl, rfl⟩⟩
    · obtain ⟨hne, hl0⟩ := DSt.fresh hl
      refine ⟨S0.set l ⟨z, q, bcs⟩, .inr ⟨l, bcs, hl0, rfl, rfl⟩, .inr ⟨k, acs, ?_, rfl, ?_⟩⟩
      · rw [DSt.set_ne _ _ _ (Ne.symm hne)]; exact hk
      · exact DSt.set_comm _ (Ne.symm hne) _ _
theorem Grw.fin {S0 S : DSt} {t : D} {rows : List (List D)} {sz : Nat} (h : Grw S0 t rows sz S) {Q : D → DSt → Prop} (hq : FinD E Q (.lst rows sz) S0) : FinD E Q t S := by
  rcases h with ⟨rfl, rfl, rfl⟩ | ⟨k, acs, h, rfl, rfl⟩
  · exact FinD.nil hq
  · refine FinD.freeze (DSt.set_same _ _ _) rfl (by simp) (Nat.le_refl _) ?_
    rw [DSt.erase_set _ _ _ h]
    simpa using hq
theorem Grw.finT {S0 S : DSt} {t : D} {rows : List (List D)} {sz : Nat} (h : Grw S0 t rows sz S) {Q : D → DSt → Prop} {lp lq : List D} (hq : FinD E Q (.tup (lp ++ .lst rows sz :: lq)) S0) : FinD E Q (.tup (lp ++ t :: lq)) S := by
  rcases h with ⟨rfl, rfl, rfl⟩ | ⟨k, acs, h, rfl, rfl⟩
  · exact FinD.nilT hq
  · refine FinD.freezeT (DSt.set_same _ _ _) rfl (by simp) (Nat.le_refl _) ?_
    rw [DSt.erase_set _ _ _ h]
    simpa using hq
theorem Grw.under {S0 S : DSt} {t : D} {rows : List (List D)} {sz : Nat} (h : Grw S0 t rows sz S) {k : Nat} {o : DObj} (hk : S k = Option.none) : Grw (S0.set k o) t rows sz (S.set k o) := by
  rcases h with ⟨rfl, rfl, rfl⟩ | ⟨l, acs, h, rfl, rfl⟩
  · exact .inl ⟨rfl, rfl, rfl⟩
  · obtain ⟨hne, hk0⟩ := DSt.fresh hk
    refine .inr ⟨l, acs, ?_, rfl, DSt.set_comm _ (Ne.symm hne) _ _⟩
    rw [DSt.set_ne _ _ _ (Ne.symm hne)]; exact h
theorem Grw.drop {S0 S : DSt} {t : D} {rows : List (List D)} {sz k : Nat} {o : DObj} (h : Grw (S0.set k o) t rows sz S) (hk : S0 k = Option.none) : ∃ S', S'.le S ∧ Grw S0 t rows sz S' := by
  rcases h with ⟨rfl, rfl, rfl⟩ | ⟨l, acs, h, rfl, rfl⟩
  · exact ⟨S0, DSt.le_new hk, .inl ⟨rfl, rfl, rfl⟩⟩
  · obtain ⟨hne, hl0⟩ := DSt.fresh h
    refine ⟨S0.set l ⟨sz, rows, acs⟩, ?_, .inr ⟨l, acs, hl0, rfl, rfl⟩⟩
    rw [DSt.set_comm _ (Ne.symm hne)]
    refine DSt.le_new ?_
    rw [DSt.set_ne _ _ _ (Ne.symm hne)]; exact hk
/-- From a lesser state. -/
theorem Grw.base {S0 S1 S : DSt} {t : D} {rows : List (List D)} {sz : Nat} (h : Grw S1 t rows sz S) (hle : S0.le S1) : ∃ S', S'.le S ∧ Grw S0 t rows sz S' := by
  rcases h with ⟨rfl, rfl, rfl⟩ | ⟨l, acs, h, rfl, rfl⟩
  · exact ⟨S0, hle, .inl ⟨rfl, rfl, rfl⟩⟩
  · have hl : S0 l = Option.none := by
      cases e : S0 l with
      | none => rfl
      | some o => rw [hle _ _ e] at h; cases h
    refine ⟨S0.set l ⟨sz, rows, acs⟩, fun j o e => ?_, .inr ⟨l, acs, hl, rfl, rfl⟩⟩
    unfold DSt.set at e ⊢
    split at e
    · rename_i hj; rw [if_pos hj]; exact e
    · rename_i hj; rw [if_neg hj]; exact hle _ _ e
/-- An array that is filled: rows of an object of its own. -/
theorem makeL {S : DSt} {sz bytes : Nat} {z : List D} {n : Nat} {K : D → DSt → Prop} (hb : bytes * n ≤ 2 ^ 47 ∧ n < 2 ^ 60) (hK : ∀ k acs, S k = Option.none → K (.raw k 0 n n true sz) (S.set k ⟨sz, List.replicate n z, acs⟩)) : makeD S sz bytes z (.int .i64 (n : Int)) (.int .i64 (n : Int)) K := by
  simp only [makeD]
  rw [if_pos ⟨by omega, by omega, by have := hb.1; exact_mod_cast this, by omega⟩, Int.toNat_natCast]
  exact .inr hK
/-- A pure answer is used. -/
theorem lit_lst {S : DSt} {sz : Nat} {rows : List (List D)} {len : Nat} {K : D → DSt → Prop} (hl : rows.length = len) (h : K (.lst rows sz) S) : litD S sz (some rows) len K := by
  simp only [litD, oD]
  refine .inl ?_
  rw [List.take_of_length_le (by omega)]
  exact h
theorem lit_raw {S : DSt} {sz : Nat} {rows : List (List D)} {len : Nat} {K : D → DSt → Prop} (h : ∀ k acs, S k = Option.none → K (.raw k 0 len len true sz) (S.set k ⟨sz, rows, acs⟩)) : litD S sz (some rows) len K := by
  simp only [litD, oD]
  exact .inr h
end
end Go.Am
end
