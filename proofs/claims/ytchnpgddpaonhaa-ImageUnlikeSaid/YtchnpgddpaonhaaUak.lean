/-
  Texts Am31, as far as they are used.
-/
import Derived.Test.YtchnpgddpaonhaaUaj
section
namespace Go.Am
set_option linter.unusedVariables false
def opt2W (r : Option (AV × AHeap)) (K : AV → AHeap → Prop) : Prop := match r with
  | some (v, H') => K v H'
  | none => False
def pickV (c a b : AV) : Option AV := match c with
  | .bool t => some (if t then a else b)
  | _ => none
def nilV (x : AV) : Option AV := match x with
  | .nilPtr | .nilIfc | .nilFn | .opq _ => none
  | .fn (.method _) _ _ => none
  | y => some y
def extractV (x : AV) (ix : Nat) : Option AV := match x with
  | .tup vs => vs[ix]?
  | _ => none
section
variable (P : Program) (E : Env)
def loadV (H : AHeap) (t : TypeId) (a : AV) : Option AV := match a with
  | .ptr o i => loadVarA P E H t o i
  | _ => none
def ifaceV (t : TypeId) (x : AV) : Option AV := match P.underlying t with
  | some (.interface _) => none
  | some _ => some (.ifc t x)
  | none => none
def lenV (H : AHeap) (t : TypeId) (x : AV) : Option AV := match lenA P t x with
  | some n => some (.int .i64 n)
  | none => (mapLenA P H t x).map fun (n : Nat) => .int .i64 n
def binV (op : BinOp) (t : TypeId) (x y : Operand) (a b : AV) : Option AV := if guardOkA P op t x y a b then binA P op t a b else none
/-- The value of an operation that turns no heap. -/
def opV (T : List AV) (H : AHeap) (o : Oper) : Option AV :=
  match o.op with
  | .move x | .assign x => some (aEval T x)
  | .pick c a b => pickV (aEval T c) (aEval T a) (aEval T b)
  | .build t parts => buildA P t (parts.toList.map fun p => (p.1, aEval T p.2))
  | .load t a => loadV P E H t (aEval T a)
  | .nilCheck x => nilV (aEval T x)
  | .binOp op t x y _ => binV P op t x y (aEval T x) (aEval T y)
  | .unOp op _ x => unA op (aEval T x)
  | .convert src dst x => (convA P E H src dst (aEval T x)).map (·.1)
  | .makeInterface t x => ifaceV P t (aEval T x)
  | .makeFunc fn first captured => some (.fn fn (first.toList.map (aEval T)) (captured.toList.map (aEval T)))
  | .slice t x lo hi mx => sliceA P H t (aEval T x) (lo.map (aEval T)) (hi.map (aEval T)) (mx.map (aEval T))
  | .fieldAddr s x f => fieldAtA P s (aEval T x) f
  | .field s x f => fieldA P s (aEval T x) f
  | .indexAddr t x ix => indexAtA P t (aEval T x) (aEval T ix)
  | .index t x ix => indexA P t (aEval T x) (aEval T ix)
  | .lookup t x ix ok => lookupA P H t (aEval T x) (aEval T ix) ok
  | .typeAssert x _ asserted ok => assertA P (aEval T x) asserted ok
  | .extract t ix => extractV (aEval T t) ix
  | .call c => match c.callee with
    | .builtin b => match b, c.args.toList.map (aEval T), c.argTypes.toList with
      | .len, [x], [t] => lenV P H t x
      | .cap, [x], [t] => (capA P t x).map fun (n : Nat) => .int .i64 n
      | .min, l, _ => minMaxA false l
      | .max, l, _ => minMaxA true l
      | _, _, _ => none
    | _ => none
  | _ => none
abbrev FW := FuncId → List AV → AHeap → (AV → AHeap → Prop) → Prop
def resF (F : FW) (r : Option ARes) (K : AV → AHeap → Prop) : Prop := match r with
  | some (.val v H') => K v H'
  | some (.call f args H') => F f args H' K
  | none => False
/-- A function's value that is called. -/
def callVA (H : AHeap) (f : AV) (args : List AV) : Option ARes := match f with
  | .fn (.func g) first captured => enterA P H g (first ++ args ++ captured)
  | .fn (.method name) first captured => match captured, first ++ args with
    | [], .ifc t v :: rest => (methodA P E H t v name).bind fun (g, r) => enterA P H g (r :: rest)
    | _, _ => none
  | .fn (.via t path g pointer) first captured => match captured, path.toList, first ++ args, P.underlying t with
    | [], [], x :: rest, some (.pointer _) => if pointer then enterA P H g (x :: rest) else none
    | _, _, _, _ => none
  | _ => none
def invokeA (H : AHeap) (r : AV) (name : String) (args : List AV) : Option ARes := match r with
  | .ifc t v => (methodA P E H t v name).bind fun (g, r) => enterA P H g (r :: args)
  | _ => none
def storeW (H : AHeap) (t : TypeId) (a x : AV) (K : AV → AHeap → Prop) : Prop := match a with
  | .ptr o i => if sizeA P t = some x.cells.length then optW (storeRange H o i x.cells) fun H' => K undefA H' else False
  | _ => False
/-- An operation, with what comes behind it. -/
def opW (F : FW) (T : List AV) (H : AHeap) (o : Oper) (K : AV → AHeap → Prop) : Prop :=
  match o.op with
  | .alloc e => optW (zeroOf P e) fun z => K (.ptr (.new H.next) 0) (newCells H z.cells)
  | .box _ x => K (.ptr (.new H.next) 0) (newCells H (aEval T x).cells)
  | .buildSlice t len parts => opt2W (buildSliceA P H t len (parts.toList.map fun p => (p.1, aEval T p.2))) K
  | .store t a x => storeW P H t (aEval T a) (aEval T x) K
  | .convert src dst x => opt2W (convA P E H src dst (aEval T x)) K
  | .makeMap _ r => match r with
    | none => K (.map H.next) (H.new (.map [] 0))
    | some _ => False
  | .makeSlice t l c => opt2W (makeSliceA P H t (aEval T l) (aEval T c)) K
  | .mapUpdate t m k x | .insert t m k x => optW (updateA P H t (aEval T m) (aEval T k) (aEval T x)) fun H' => K undefA H'
  | .mapEntry t m k => opt2W (entryA P H t (aEval T m) (aEval T k)) K
  | .entryStore _ m s x => optW (entryStoreA H (aEval T m) (aEval T s) (aEval T x)) fun H' => K undefA H'
  | .call c => match c.callee with
    | .value (.func g) => if bodied P g then F g (c.args.toList.map (aEval T)) H K else False
    | .value f => resF F (callVA P E H (aEval T f) (c.args.toList.map (aEval T))) K
    | .invoke r name => resF F (invokeA P E H (aEval T r) name (c.args.toList.map (aEval T))) K
    | .builtin b => match b, c.args.toList.map (aEval T), c.argTypes.toList with
      | .append, [s, x], [sT, xT] => opt2W (appendA P E H sT s xT x) K
      | .copy, [d, x], dT :: _ => opt2W (copyA P E H dT d x) K
      | _, _, _ => optW (opV P E T H o) fun v => K v H
  | _ => optW (opV P E T H o) fun v => K v H
end
section
variable (P : Program) (E : Env) (w0 : World)
def StepV (F : FW) (ops : Array Oper) (T : List AV) (H : AHeap) (o : Oper) (K : AV → AHeap → Prop) : Prop := guardW (wantedA ops T o) (opW P E F T H o) H K
def valV (ops : Array Oper) (T : List AV) (H : AHeap) (o : Oper) : Option AV := valG (wantedA ops T o) (opV P E T H o)
/-- The row, laid out by the kernel. -/
def forceL : List AV → (List AV → Prop) → Prop
  | [], k => k []
  | a :: l, k => forceL l fun l' => k (a :: l')
def lookK : List AV → Nat → (AV → Prop) → Prop
  | [], _, k => k undefA
  | a :: l, n, k => match n with
    | 0 => k a
    | n + 1 => lookK l n k
def aliasK (T : List AV) (x : Operand) (k : AV → Prop) : Prop := match x with
  | .tmp t => lookK T t k
  | x => k (aEval T x)
def aliasOf (o : Oper) : Option Operand := match o.guard with
  | none => match o.op with
    | .move x | .assign x => some x
    | _ => none
  | some _ => none
def OpsV (ops : Array Oper) : List Oper → List AV → AHeap → (List AV → AHeap → Prop) → Prop
  | [], T, H, Q => forceL T fun T => Q T H
  | o :: l, T, H, Q => forceL T fun T => match aliasOf o with
   | some x => aliasK T x fun e => OpsV ops l (putA T o.dst e) H Q
   | none => match kindOf P o with
    | 0 | 1 => optW (valV P E ops T H o) fun v => OpsV ops l (putA T o.dst v) H Q
    | _ => StepV P E (FnW P E w0) ops T H o fun v H' => OpsV ops l (putA T o.dst v) H' Q
def sameV (ops : Array Oper) (T : List AV) (o : Oper) (v : AV) : List AHeap → Prop
  | [] => True
  | G :: Gs => valV P E ops T G o = some v ∧ sameV ops T o v Gs
def againV (ops : Array Oper) (H' : AHeap) (anc : Nat) : Nat → List Done → Prop
  | _, [] => True
  | j, d :: ds => if d.hi == 1 && !anc.testBit j then valV P E ops d.T H' d.o = some d.v ∧ againV ops H' anc (j + 1) ds else againV ops H' anc (j + 1) ds
def DrawV (ops : Array Oper) : List Oper → List Done → List AV → AHeap → List AHeap → (List AV → AHeap → Prop) → Prop
  | [], _, T, H, _, Q => forceL T fun T => Q T H
  | o :: l, ds, T, H, older, Q => match ancOf ds o.after.toList 0 with
    | none => False
    | some anc => if allI (fun j e => anc.testBit j || o.apart ops e.o) 0 ds then forceL T fun T =>
        match aliasOf o with
        | some x => aliasK T x fun v => DrawV ops l (ds ++ [⟨o, anc, T, v, older.length, 0, false, []⟩]) (putA T o.dst v) H older Q
        | none => match kindOf P o with
        | 0 => optW (valV P E ops T H o) fun v => DrawV ops l (ds ++ [⟨o, anc, T, v, older.length, 0, false, []⟩]) (putA T o.dst v) H older Q
        | 1 => optW (valV P E ops T H o) fun v => sameV P E ops T o v (older.take (older.length - loOf anc 0 ds 0)) ∧ DrawV ops l (ds ++ [⟨o, anc, T, v, older.length, 1, false, []⟩]) (putA T o.dst v) H older Q
        | _ => if allI (fun j e => !e.wr || anc.testBit j) 0 ds then
            StepV P E (FnD P E w0) ops T H o fun v H' => againV P E ops H' anc 0 ds ∧ DrawV ops l (ds ++ [⟨o, anc, T, v, older.length, 2, true, []⟩]) (putA T o.dst v) H' (H :: older) Q
          else False
      else False
def vc : Code → List AV → AHeap → (AExit → List AV → AHeap → Prop) → Prop
  | .skip, T, H, Q => Q .normal T H
  | .label _, T, H, Q => Q .normal T H
  | .ret, T, H, Q => Q .ret T H
  | .exit id, T, H, Q => Q (.exit id) T H
  | .region _ ops draw, T, H, Q => match draw with
    | false => OpsV P E w0 ops ops.toList T H (Q .normal)
    | true => DrawV P E w0 ops ops.toList [] T H [] (Q .normal)
  | .seq a b, T, H, Q => vc a T H fun ex T' H' => match ex with
    | .normal => vc b T' H' Q
    | e => Q e T' H'
  | .cond c a b, T, H, Q => condW (aEval T c) (vc a T H Q) (vc b T H Q)
  | .block id c, T, H, Q => vc c T H (blockQ id Q)
  | .loop c, T, H, Q => CodeW P E w0 (.loop c) T H Q
  | _, _, _, _ => False
end
section
variable {P : Program} {E : Env} {w0 : World}
theorem valOf_v {r : Option AV} {H : AHeap} : valOf (r.map fun x => ARes.val x H) = r := by cases r <;> rfl
theorem opV_ok {T : List AV} {H : AHeap} {o : Oper} (hk : kindOf P o ≤ 1) : valOf (opA P E T H o) = opV P E T H o := by
  obtain ⟨dst, op, type, pos, after, guard⟩ := o
  cases op <;> simp only [opA, opV] <;> try (first | rfl | exact valOf_v | (simp only [kindOf] at hk; omega))
  case pick c a b => unfold pickV; cases aEval T c <;> rfl
  case load t a =>
    unfold loadV
    cases aEval T a <;> first | rfl | exact valOf_v
  case nilCheck x => unfold nilV; split <;> simp_all [valOf]
  case binOp op t x y yt =>
    unfold binV
    split
    · exact valOf_v
    · rfl
  case convert src dst x => cases convA P E H src dst (aEval T x) <;> rfl
  case makeInterface t x =>
    unfold ifaceV
    cases P.underlying t with
    | none => rfl
    | some d => cases d <;> rfl
  case extract t ix =>
    unfold extractV
    cases aEval T t <;> first | rfl | exact valOf_v
  case call c =>
    unfold callA
    cases hc : c.callee with
    | value f => simp only [kindOf, hc] at hk; omega
    | invoke r m => simp only [kindOf, hc] at hk; omega
    | builtin b =>
      simp only [kindOf, hc] at hk
      generalize c.args.toList.map (aEval T) = as
      generalize c.argTypes.toList = ts
      cases b <;> simp at hk
      case len =>
        simp only [lenV]
        rcases as with _ | ⟨x, _ | ⟨y, as⟩⟩ <;> rcases ts with _ | ⟨t, _ | ⟨u, ts⟩⟩ <;> simp only <;> try rfl
        cases lenA P t x
        · exact (by cases mapLenA P H t x <;> rfl)
        · rfl
      case cap =>
        rcases as with _ | ⟨x, _ | ⟨y, as⟩⟩ <;> rcases ts with _ | ⟨t, _ | ⟨u, ts⟩⟩ <;> simp only <;> try rfl
        cases capA P t x <;> rfl
      case min => simp only; cases minMaxA false as <;> rfl
      case max => simp only; cases minMaxA true as <;> rfl
theorem resF_vh {F : FW} {r : Option (AV × AHeap)} {K : AV → AHeap → Prop} (h : opt2W r K) : resF F (r.map fun x => ARes.val x.1 x.2) K := by cases r <;> exact h
theorem resF_h {F : FW} {r : Option AHeap} {K : AV → AHeap → Prop} (h : optW r fun H' => K undefA H') : resF F (r.map fun H' => ARes.val undefA H') K := by cases r <;> exact h
theorem resF_of_opV {F : FW} {T : List AV} {H : AHeap} {o : Oper} {K : AV → AHeap → Prop} (hk : kindOf P o ≤ 1) (h : optW (opV P E T H o) fun v => K v H) : resF F (opA P E T H o) K := by
  rw [← opV_ok hk] at h
  cases hr : opA P E T H o with
  | none => rw [hr] at h; exact h.elim
  | some r =>
    rw [hr] at h
    cases r with
    | val v H1 =>
      have := opA_read hk hr
      subst this
      exact h
    | call f args H1 => exact h.elim
theorem opW_ok {F : FW} {T : List AV} {H : AHeap} {o : Oper} {K : AV → AHeap → Prop} (h : opW P E F T H o K) : resF F (opA P E T H o) K := by
  by_cases hk : kindOf P o ≤ 1
  · refine resF_of_opV hk ?_
    obtain ⟨dst, op, type, pos, after, guard⟩ := o
    cases op <;> simp only [opW] at h <;> try (first | exact h | (simp only [kindOf] at hk; omega))
    case convert src dst x =>
      simp only [opV]
      have hr : ∀ v H1, convA P E H src dst (aEval T x) = some (v, H1) → H1 = H := by
        intro v H1 e
        refine opA_read (P := P) (E := E) (T := T) (v := v) hk ?_
        simp only [opA, e]; rfl
      cases hc : convA P E H src dst (aEval T x) with
      | none => rw [hc] at h; exact h
      | some r =>
        obtain ⟨v, H1⟩ := r
        rw [hc] at h
        have := hr v H1 hc
        subst this
        exact h
    case call c =>
      cases hc : c.callee with
      | value f => simp only [kindOf, hc] at hk; omega
      | invoke r m => simp only [kindOf, hc] at hk; omega
      | builtin b =>
        simp only [kindOf, hc] at hk
        simp only [hc] at h
        cases b <;> simp at hk <;> exact h
  · obtain ⟨dst, op, type, pos, after, guard⟩ := o
    cases op <;> simp only [opW] at h <;> try ((simp only [kindOf] at hk; omega))
    all_goals try (simp only [opV] at h; exact h.elim)
    case alloc e =>
      simp only [opA]
      cases hz : zeroOf P e with
      | none => rw [hz] at h; exact h.elim
      | some z => rw [hz] at h; exact h
    case box e x => exact h
    case buildSlice t n ps => exact resF_vh h
    case insert t m k x => exact resF_h h
    case store t a x =>
      simp only [opA]
      cases ha : aEval T a <;> simp only [ha, storeW] at h ⊢
      split at h
      · rename_i hs
        rw [if_pos hs]; exact resF_h h
      · exact h.elim
    case convert src dst x => exact resF_vh h
    case makeMap t r =>
      simp only [opA]
      cases r with
      | none => exact h
      | some x => exact h.elim
    case makeSlice t l c => exact resF_vh h
    case mapUpdate t m k x => exact resF_h h
    case mapEntry t m k => exact resF_vh h
    case entryStore t m s x => exact resF_h h
    case call c =>
      simp only [opA]
      unfold callA
      cases hc : c.callee with
      | value f =>
        simp only [hc] at h ⊢
        cases f with
        | func g =>
          simp only [aEval, enterA] at h ⊢
          split at h
          · rename_i hb; rw [if_pos hb]; simp only [List.nil_append, List.append_nil]; exact h
          · exact h.elim
        | tmp t => unfold callVA at h; exact h
        | const v => unfold callVA at h; exact h
        | global g => unfold callVA at h; exact h
      | invoke r m =>
        simp only [hc] at h ⊢
        exact h
      | builtin b =>
        simp only [kindOf, hc] at hk
        simp only [hc] at h ⊢
        generalize c.args.toList.map (aEval T) = as at h ⊢
        generalize c.argTypes.toList = ts at h ⊢
        simp only [opV, hc] at h
        cases b <;> simp at hk
        case append =>
          rcases as with _ | ⟨s, _ | ⟨x, _ | ⟨y, as⟩⟩⟩ <;> rcases ts with _ | ⟨sT, _ | ⟨xT, _ | ⟨u, ts⟩⟩⟩ <;> first | exact resF_vh h | exact h.elim
        case copy =>
          rcases as with _ | ⟨s, _ | ⟨x, _ | ⟨y, as⟩⟩⟩ <;> rcases ts with _ | ⟨sT, ts⟩ <;> first | exact resF_vh h | exact h.elim
        all_goals exact h.elim
theorem forceL_eq : ∀ {T : List AV} {k : List AV → Prop}, forceL T k = k T
  | [], k => rfl
  | a :: l, k => by simp only [forceL]; rw [forceL_eq]
theorem lookK_eq : ∀ {T : List AV} {n : Nat} {k : AV → Prop}, lookK T n k = k (T.getD n undefA)
  | [], n, k => rfl
  | a :: l, 0, k => rfl
  | a :: l, n + 1, k => by simp only [lookK]; rw [lookK_eq]; simp
theorem aliasK_eq {T : List AV} {x : Operand} {k : AV → Prop} : aliasK T x k = k (aEval T x) := by
  cases x <;> first | rfl | exact lookK_eq
theorem alias_kind {o : Oper} {x : Operand} (h : aliasOf o = some x) : kindOf P o = 0 ∧ ∀ (ops : Array Oper) (T : List AV) (H : AHeap), valV P E ops T H o = some (aEval T x) := by
  obtain ⟨dst, op, type, pos, after, guard⟩ := o
  unfold aliasOf at h
  cases guard with
  | some g => cases h
  | none =>
    cases op <;> first | (cases h; done) | (cases h; exact ⟨rfl, fun _ _ _ => rfl⟩)
theorem stepV_W {ops : Array Oper} {T : List AV} {H : AHeap} {o : Oper} {K : AV → AHeap → Prop} (h : StepV P E (FnW P E w0) ops T H o K) : StepW P E w0 ops T H o K := by
  unfold StepV at h
  unfold StepW
  generalize wantedA ops T o = g at h ⊢
  cases g with
  | none => exact h
  | some b => cases b with
    | true => exact opW_ok h
    | false => exact h
theorem resD_mono {r : Option ARes} {Q Q' : AV → AHeap → Prop} (h : resD P E w0 r Q) (hq : ∀ v H', Q v H' → Q' v H') : resD P E w0 r Q' := by
  unfold resD at *
  split
  · exact hq _ _ h
  · exact FnD.mono h hq
  · exact h
theorem StepD_mono {ops : Array Oper} {T : List AV} {H : AHeap} {o : Oper} {Q Q' : AV → AHeap → Prop} (h : StepD P E w0 ops T H o Q) (hq : ∀ v H', Q v H' → Q' v H') : StepD P E w0 ops T H o Q' := by
  unfold StepD guardW at *
  split <;> rename_i e <;> rw [e] at h
  · exact resD_mono h hq
  · exact hq _ _ h
  · exact h
theorem valV_ok {ops : Array Oper} {T : List AV} {H : AHeap} {o : Oper} (hk : kindOf P o ≤ 1) : valA P E ops T H o = valV P E ops T H o := by
  unfold valA valV
  rw [opV_ok hk]
theorem stepW_of_val {ops : Array Oper} {T : List AV} {H : AHeap} {o : Oper} (hk : kindOf P o ≤ 1) {K : AV → AHeap → Prop} (h : optW (valV P E ops T H o) fun v => K v H) : StepW P E w0 ops T H o K := by
  rw [← valV_ok hk] at h
  unfold optW at h
  split at h
  · rename_i v hv
    exact StepW_mono (StepD_W (valA_gives (w0 := w0) hk hv)) fun v' H' e => by obtain ⟨rfl, rfl⟩ := e; exact h
  · exact h.elim
theorem opsV_ok {ops : Array Oper} : ∀ {l : List Oper} {T : List AV} {H : AHeap} {Q : List AV → AHeap → Prop}, OpsV P E w0 ops l T H Q → OpsW P E w0 ops l T H Q
  | [], T, H, Q, h => by simp only [OpsV, forceL_eq] at h; exact h
  | o :: l, T, H, Q, h => by
    simp only [OpsV, forceL_eq] at h
    split at h
    · rename_i x hx
      rw [aliasK_eq] at h
      obtain ⟨hk, hv⟩ := alias_kind (P := P) (E := E) hx
      exact StepW_mono (stepW_of_val (K := fun v H => OpsV P E w0 ops l (putA T o.dst v) H Q) (by omega) (by rw [hv]; exact h)) fun v H' h' => opsV_ok h'
    split at h
    · rename_i hk
      exact StepW_mono (stepW_of_val (K := fun v H => OpsV P E w0 ops l (putA T o.dst v) H Q) (by omega) h) fun v H' h' => opsV_ok h'
    · rename_i hk
      exact StepW_mono (stepW_of_val (K := fun v H => OpsV P E w0 ops l (putA T o.dst v) H Q) (by omega) h) fun v H' h' => opsV_ok h'
    · exact StepW_mono (stepV_W h) fun v H' h' => opsV_ok h'
theorem sameV_ok {ops : Array Oper} {T : List AV} {o : Oper} {v : AV} (hk : kindOf P o ≤ 1) : ∀ {Gs : List AHeap}, sameV P E ops T o v Gs → sameAt P E ops T o v Gs
  | [], h => h
  | G :: Gs, h => ⟨by rw [valV_ok hk]; exact h.1, sameV_ok hk h.2⟩
theorem againV_ok {ops : Array Oper} {H' : AHeap} {anc : Nat} : ∀ {ds : List Done} {j : Nat}, (∀ d ∈ ds, d.hi = 1 → kindOf P d.o ≤ 1) → againV P E ops H' anc j ds → againW P E ops H' anc j ds
  | [], j, _, h => h
  | d :: ds, j, hd, h => by
    simp only [againV] at h
    simp only [againW]
    split at h
    · rename_i hc
      rw [if_pos hc]
      simp only [Bool.and_eq_true, beq_iff_eq] at hc
      exact ⟨by rw [valV_ok (hd d List.mem_cons_self hc.1)]; exact h.1, againV_ok (fun e he => hd e (List.mem_cons_of_mem _ he)) h.2⟩
    · rename_i hc
      rw [if_neg hc]
      exact againV_ok (fun e he => hd e (List.mem_cons_of_mem _ he)) h
/-- A part of a code. -/
def codeAt : List Nat → Code → Code
  | [], c => c
  | n :: l, c => match c with
    | .seq a b | .cond _ a b => if n = 0 then codeAt l a else codeAt l b
    | .block _ a | .loop a => codeAt l a
    | c => c
def withW (v : AV) (H : AHeap) (K : AV → AHeap → Prop) : Prop := K v H
def cellW (P : Program) (E : Env) (H : AHeap) (t : TypeId) (a : AV) (K : AV → Prop) : Prop := match a with
  | .ptr o i => optW (loadVarA P E H t o i) K
  | _ => False
end
end Go.Am
end
