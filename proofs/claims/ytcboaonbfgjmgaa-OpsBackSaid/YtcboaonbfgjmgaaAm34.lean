/-
  'vc' with cuts: where a code that begins with a given region follows, it is left as it is.
-/
import Derived.Test.YtcboaonbfgjmgaaAm31
namespace Go.Am
set_option linter.unusedVariables false

/-- The number of the region with which a code begins. -/
def headId : Code → Option Nat
  | .region id _ _ => some id
  | .seq a _ => headId a
  | .block _ c | .loop c => headId c
  | _ => none
def cutAt (cut : List Nat) (c : Code) : Bool := match headId c with
  | some id => cut.contains id
  | none => false

section
variable (P : Program) (E : Env) (w0 : World) (cut : List Nat)
def vcC : Code → List AV → AHeap → (AExit → List AV → AHeap → Prop) → Prop
  | .skip, T, H, Q => Q .normal T H
  | .label _, T, H, Q => Q .normal T H
  | .ret, T, H, Q => Q .ret T H
  | .exit id, T, H, Q => Q (.exit id) T H
  | .region _ ops draw, T, H, Q => match draw with
    | false => OpsV P E w0 ops ops.toList T H (Q .normal)
    | true => DrawV P E w0 ops ops.toList [] T H [] (Q .normal)
  | .seq a b, T, H, Q => match cutAt cut b with
    | true => vcC a T H fun ex T' H' => match ex with
      | .normal => CodeW P E w0 b T' H' Q
      | e => Q e T' H'
    | false => vcC a T H fun ex T' H' => match ex with
      | .normal => vcC b T' H' Q
      | e => Q e T' H'
  | .cond c a b, T, H, Q => condW (aEval T c) (vcC a T H Q) (vcC b T H Q)
  | .block id c, T, H, Q => vcC c T H (blockQ id Q)
  | .loop c, T, H, Q => CodeW P E w0 (.loop c) T H Q
  | _, _, _, _ => False
end

section
variable {P : Program} {E : Env} {w0 : World} {cut : List Nat}
theorem vcC_ok (hm : P.follows .mixedOrders = true) : ∀ (c : Code) (T : List AV) (H : AHeap) (Q : AExit → List AV → AHeap → Prop), vcC P E w0 cut c T H Q → CodeW P E w0 c T H Q
  | .skip, T, H, Q, h => codeW_skip h
  | .label _, T, H, Q, h => codeW_label h
  | .ret, T, H, Q, h => codeW_ret h
  | .exit id, T, H, Q, h => codeW_exit h
  | .region _ ops false, T, H, Q, h => codeW_region (opsV_ok h)
  | .region _ ops true, T, H, Q, h => codeW_draw hm (drawV_ok (fun d hd => by cases hd) h)
  | .seq a b, T, H, Q, h => by
    simp only [vcC] at h
    split at h
    · exact codeW_seq (CodeW.mono (vcC_ok hm a T H _ h) fun ex T' H' hq => by cases ex <;> exact hq)
    · exact codeW_seq (CodeW.mono (vcC_ok hm a T H _ h) fun ex T' H' hq => by
        cases ex with
        | normal => exact vcC_ok hm b T' H' Q hq
        | exit id => exact hq
        | ret => exact hq)
  | .cond c a b, T, H, Q, h => codeW_cond (condW_mono h (vcC_ok hm a T H Q) (vcC_ok hm b T H Q))
  | .block id c, T, H, Q, h => codeW_block (vcC_ok hm c T H _ h)
  | .loop c, T, H, Q, h => h
  | .rangeFunc .., T, H, Q, h => h.elim
  | .scope .., T, H, Q, h => h.elim
  | .goto .., T, H, Q, h => h.elim
  | .refuse .., T, H, Q, h => h.elim

theorem fnW_of_vcC (cut : List Nat) (hm : P.follows .mixedOrders = true) {f : FuncId} {fn : Func} {c : Code} (hfn : P.funcs[f]? = some fn) (hb : fn.body = some c) {args : List AV} {H : AHeap} {Q : AV → AHeap → Prop} {V : Prop}
    (e : vcC P E w0 cut c (args ++ List.replicate (fn.ntmps - args.length) undefA) H (retQ P E fn Q) = V) (h : V) : FnW P E w0 f args H Q :=
  fnW_of_code hfn hb (vcC_ok hm _ _ _ _ (e ▸ h))
theorem codeW_of_vcC (cut : List Nat) (hm : P.follows .mixedOrders = true) {c : Code} {T : List AV} {H : AHeap} {Q : AExit → List AV → AHeap → Prop} {V : Prop} (e : vcC P E w0 cut c T H Q = V) (h : V) : CodeW P E w0 c T H Q :=
  vcC_ok hm _ _ _ _ (e ▸ h)
end
end Go.Am
