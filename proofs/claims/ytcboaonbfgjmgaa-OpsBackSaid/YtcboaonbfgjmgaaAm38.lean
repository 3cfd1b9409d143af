/-
  'vcX' where a call may have several ends: regions in order call by FnW, regions that draw their order by FnX; cuts at branches too.
-/
import Derived.Test.YtcboaonbfgjmgaaAm37
namespace Go.Am
set_option linter.unusedVariables false

section
variable (P : Program) (E : Env) (w0 : World) (cut : List Nat)
def vcY : Code → List AV → AHeap → (AExit → List AV → AHeap → Prop) → Prop
  | .skip, T, H, Q => Q .normal T H
  | .label _, T, H, Q => Q .normal T H
  | .ret, T, H, Q => Q .ret T H
  | .exit id, T, H, Q => Q (.exit id) T H
  | .region _ ops draw, T, H, Q => match draw with
    | false => OpsV P E w0 ops ops.toList T H (Q .normal)
    | true => DrawX P E w0 ops ops.toList [] T H [] (Q .normal)
  | .seq a b, T, H, Q => match cutAt cut b with
    | true => vcY a T H fun ex T' H' => match ex with
      | .normal => CodeW P E w0 b T' H' Q
      | e => Q e T' H'
    | false => vcY a T H fun ex T' H' => match ex with
      | .normal => vcY b T' H' Q
      | e => Q e T' H'
  | .cond c a b, T, H, Q => condW (aEval T c) (match cutAt cut a with
    | true => CodeW P E w0 a T H Q
    | false => vcY a T H Q) (match cutAt cut b with
    | true => CodeW P E w0 b T H Q
    | false => vcY b T H Q)
  | .block id c, T, H, Q => vcY c T H (blockQ id Q)
  | .loop c, T, H, Q => CodeW P E w0 (.loop c) T H Q
  | _, _, _, _ => False
def seqY (b : Code) (Q : AExit → List AV → AHeap → Prop) (ex : AExit) (T : List AV) (H : AHeap) : Prop := match ex with
  | .normal => vcY P E w0 [] b T H Q
  | e => Q e T H
def cutY (b : Code) (Q : AExit → List AV → AHeap → Prop) (ex : AExit) (T : List AV) (H : AHeap) : Prop := match ex with
  | .normal => CodeW P E w0 b T H Q
  | e => Q e T H
end

section
variable {P : Program} {E : Env} {w0 : World} {cut : List Nat}
/-- A row is the row of some world. -/
theorem codeW_rb {c : Code} {T : List AV} {H : AHeap} {Q : AExit → List AV → AHeap → Prop} (h : Rb E w0 H T → CodeW P E w0 c T H Q) : CodeW P E w0 c T H Q := by
  intro w ρ a K R hf hT
  exact h (Rb.put R hf hT) w ρ a K R hf hT
theorem CodeX.toW {c : Code} {T : List AV} {H : AHeap} {Q : AExit → List AV → AHeap → Prop} (h : CodeX P E w0 c T H Q) : CodeW P E w0 c T H Q := codeW_rb fun hr => by
  obtain ⟨ex, T', H', h1, h2⟩ := h hr
  refine h1.mono fun e T1 H1 he => ?_
  obtain ⟨rfl, rfl, rfl⟩ := he
  exact h2

theorem vcY_ok (hm : P.follows .mixedOrders = true) : ∀ (c : Code) (T : List AV) (H : AHeap) (Q : AExit → List AV → AHeap → Prop), vcY P E w0 cut c T H Q → CodeW P E w0 c T H Q
  | .skip, T, H, Q, h => codeW_skip h
  | .label _, T, H, Q, h => codeW_label h
  | .ret, T, H, Q, h => codeW_ret h
  | .exit id, T, H, Q, h => codeW_exit h
  | .region _ ops false, T, H, Q, h => codeW_region (opsV_ok h)
  | .region _ ops true, T, H, Q, h => codeW_rb fun hr => codeW_draw hm (drawX_ok (fun d hd => by cases hd) h hr)
  | .seq a b, T, H, Q, h => by
    simp only [vcY] at h
    split at h
    · exact codeW_seq (CodeW.mono (vcY_ok hm a T H _ h) fun ex T' H' hq => by cases ex <;> exact hq)
    · exact codeW_seq (CodeW.mono (vcY_ok hm a T H _ h) fun ex T' H' hq => by
        cases ex with
        | normal => exact vcY_ok hm b T' H' Q hq
        | exit id => exact hq
        | ret => exact hq)
  | .cond c a b, T, H, Q, h => codeW_cond (condW_mono h (fun h => by
      split at h
      · exact h
      · exact vcY_ok hm a T H Q h) (fun h => by
      split at h
      · exact h
      · exact vcY_ok hm b T H Q h))
  | .block id c, T, H, Q, h => codeW_block (vcY_ok hm c T H _ h)
  | .loop c, T, H, Q, h => h
  | .rangeFunc .., T, H, Q, h => h.elim
  | .scope .., T, H, Q, h => h.elim
  | .goto .., T, H, Q, h => h.elim
  | .refuse .., T, H, Q, h => h.elim

theorem fnW_of_vcY (cut : List Nat) (hm : P.follows .mixedOrders = true) {f : FuncId} {fn : Func} {c : Code} (hfn : P.funcs[f]? = some fn) (hb : fn.body = some c) {args : List AV} {H : AHeap} {Q : AV → AHeap → Prop} {V : Prop}
    (e : vcY P E w0 cut c (args ++ List.replicate (fn.ntmps - args.length) undefA) H (retQ P E fn Q) = V) (h : V) : FnW P E w0 f args H Q :=
  fnW_of_code hfn hb (vcY_ok hm _ _ _ _ (e ▸ h))
theorem codeW_of_vcY (cut : List Nat) (hm : P.follows .mixedOrders = true) {c : Code} {T : List AV} {H : AHeap} {Q : AExit → List AV → AHeap → Prop} {V : Prop} (e : vcY P E w0 cut c T H Q = V) (h : V) : CodeW P E w0 c T H Q :=
  vcY_ok hm _ _ _ _ (e ▸ h)
end
end Go.Am
