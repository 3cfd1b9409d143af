/-
  Every operation over a heap with more in it.
-/
import Derived.Test.YtcboaonbfgjmgaaAm19
namespace Go.Am
section
variable {E : Env} {P : Program} {M : AHeap} {T : List AV} {o : Oper}

theorem pure_trs (hw : Wf M) {v : AV} (h : ∀ H, Sub M H → opA P E T H o = some (.val v H)) : OpTrs P E T o M (.val v M) :=
  ⟨[], rfl, Tame.nil _, hw, h⟩

theorem enterA_sub {f : FuncId} {args : List AV} {r : ARes} (h : enterA P M f args = some r) : r = .call f args M ∧ ∀ H, enterA P H f args = some (.call f args H) := by
  unfold enterA at h
  split at h
  · rename_i hb
    cases h
    exact ⟨rfl, fun H => by unfold enterA; rw [if_pos hb]⟩
  · cases h

theorem enter_trs {f : FuncId} {args : List AV} {r : ARes} (h : enterA P M f args = some r) (ho : ∀ H, Sub M H → opA P E T H o = enterA P H f args) : OpTrs P E T o M r := by
  obtain ⟨rfl, h2⟩ := enterA_sub h
  exact ⟨rfl, fun H hs => (ho H hs).trans (h2 H)⟩

theorem callA_trs (hw : Wf M) {c : Call} (hop : o.op = .call c) {r : ARes} (h : callA P E M c (aEval T) = some r) : OpTrs P E T o M r := by
  have ho : ∀ H, opA P E T H o = callA P E H c (aEval T) := fun H => by unfold opA; simp only [hop]
  unfold callA at h
  simp only at h
  split at h
  · rename_i f hc
    split at h
    · rename_i g first captured hf
      exact enter_trs h fun H _ => by rw [ho]; unfold callA; simp only [hc, hf]
    · rename_i name first captured hf
      split at h
      · rename_i t v rest _ hl
        simp only [Option.bind_eq_some_iff] at h
        obtain ⟨⟨g, x⟩, hm, h⟩ := h
        refine enter_trs h fun H hs => ?_
        rw [ho]; unfold callA; simp only [hc, hf, hl, methodA_sub hs hm, Option.bind_some]
      · cases h
    · rename_i t path g pointer first captured hf
      split at h
      · rename_i x rest _ hp hl hu
        split at h
        · rename_i hptr
          refine enter_trs h fun H hs => ?_
          rw [ho]; unfold callA; simp only [hc, hf, hl, hp, hu, hptr, if_true]
        · cases h
      · cases h
    · cases h
  · rename_i recv name hc
    split at h
    · rename_i t v hf
      simp only [Option.bind_eq_some_iff] at h
      obtain ⟨⟨g, x⟩, hm, h⟩ := h
      refine enter_trs h fun H hs => ?_
      rw [ho]; unfold callA; simp only [hc, hf, methodA_sub hs hm, Option.bind_some]
    · cases h
  · rename_i b hc
    split at h
    · rename_i s x sT xT h1 h2
      simp only [Option.map_eq_some_iff] at h
      obtain ⟨⟨a, M'⟩, ha, rfl⟩ := h
      obtain ⟨ts, g1, g2, g3, g4⟩ := appendA_trs hw ha
      exact ⟨ts, g1, g2, g3, fun H hs => by rw [ho]; unfold callA; simp only [hc, h1, h2, g4 H hs, Option.map_some]⟩
    · rename_i x t h1 h2
      split at h
      · rename_i n hn
        cases h
        exact pure_trs hw fun H hs => by rw [ho]; unfold callA; simp only [hc, h1, h2, hn]
      · rename_i hn
        simp only [Option.map_eq_some_iff] at h
        obtain ⟨n, hm, rfl⟩ := h
        exact pure_trs hw fun H hs => by rw [ho]; unfold callA; simp only [hc, h1, h2, hn, mapLenA_sub hs hm, Option.map_some]
    · rename_i x t h1 h2
      simp only [Option.map_eq_some_iff] at h
      obtain ⟨n, hm, rfl⟩ := h
      exact pure_trs hw fun H hs => by rw [ho]; unfold callA; simp only [hc, h1, h2, hm, Option.map_some]
    · rename_i d x dT _ h1 h2
      simp only [Option.map_eq_some_iff] at h
      obtain ⟨⟨a, M'⟩, ha, rfl⟩ := h
      obtain ⟨ts, g1, g2, g3, g4⟩ := copyA_trs hw ha
      exact ⟨ts, g1, g2, g3, fun H hs => by rw [ho]; unfold callA; simp only [hc, h1, h2, g4 H hs, Option.map_some]⟩
    · simp only [Option.map_eq_some_iff] at h
      obtain ⟨n, hm, rfl⟩ := h
      exact pure_trs hw fun H hs => by rw [ho]; unfold callA; simp only [hc, hm, Option.map_some]
    · simp only [Option.map_eq_some_iff] at h
      obtain ⟨n, hm, rfl⟩ := h
      exact pure_trs hw fun H hs => by rw [ho]; unfold callA; simp only [hc, hm, Option.map_some]
    · cases h

theorem vh_trs (f : AHeap → Option (AV × AHeap)) {r : ARes} (ho : ∀ H, opA P E T H o = (f H).map fun x => .val x.1 x.2) (h : (f M).map (fun x => ARes.val x.1 x.2) = some r)
    (ht : ∀ a M', f M = some (a, M') → ∃ ts, M' = aps ts M ∧ Tame M ts ∧ Wf M' ∧ ∀ H, Sub M H → f H = some (a, aps ts H)) : OpTrs P E T o M r := by
  simp only [Option.map_eq_some_iff] at h
  obtain ⟨⟨a, M'⟩, ha, rfl⟩ := h
  obtain ⟨ts, g1, g2, g3, g4⟩ := ht a M' ha
  exact ⟨ts, g1, g2, g3, fun H hs => by rw [ho, g4 H hs]; rfl⟩

theorem h_trs (f : AHeap → Option AHeap) {r : ARes} (ho : ∀ H, opA P E T H o = (f H).map fun x => .val undefA x) (h : (f M).map (fun x => ARes.val undefA x) = some r)
    (ht : ∀ M', f M = some M' → ∃ ts, M' = aps ts M ∧ Tame M ts ∧ Wf M' ∧ ∀ H, Sub M H → f H = some (aps ts H)) : OpTrs P E T o M r := by
  simp only [Option.map_eq_some_iff] at h
  obtain ⟨M', ha, rfl⟩ := h
  obtain ⟨ts, g1, g2, g3, g4⟩ := ht M' ha
  exact ⟨ts, g1, g2, g3, fun H hs => by rw [ho, g4 H hs]; rfl⟩

theorem v_trs (hw : Wf M) (f : AHeap → Option AV) {r : ARes} (ho : ∀ H, opA P E T H o = (f H).map fun x => .val x H) (h : (f M).map (fun x => ARes.val x M) = some r)
    (ht : ∀ a, f M = some a → ∀ H, Sub M H → f H = some a) : OpTrs P E T o M r := by
  simp only [Option.map_eq_some_iff] at h
  obtain ⟨a, ha, rfl⟩ := h
  exact pure_trs hw fun H hs => by rw [ho, ht a ha H hs]; rfl

theorem opA_trs (hw : Wf M) {r : ARes} (h : opA P E T M o = some r) : OpTrs P E T o M r := by
  unfold opA at h
  simp only at h
  split at h
  case h_1 x hop =>
    cases h; exact pure_trs hw fun H hs => by unfold opA; simp only [hop]
  case h_2 x hop =>
    cases h; exact pure_trs hw fun H hs => by unfold opA; simp only [hop]
  case h_3 c a b hop =>
    split at h
    · rename_i t ht
      cases h; exact pure_trs hw fun H hs => by unfold opA; simp only [hop, ht]
    · cases h
  case h_4 e hop =>
    split at h
    · rename_i z hz
      cases h
      obtain ⟨ts, g1, g2, g3⟩ := newCells_trs hw z.cells
      exact ⟨ts, g1 M (Sub.refl M), g2, g3, fun H hs => by unfold opA; simp only [hop, hz, hs.next, g1 H hs]⟩
    · cases h
  case h_5 t x hop =>
    cases h
    obtain ⟨ts, g1, g2, g3⟩ := newCells_trs hw (aEval T x).cells
    exact ⟨ts, g1 M (Sub.refl M), g2, g3, fun H hs => by unfold opA; simp only [hop, hs.next, g1 H hs]⟩
  case h_6 t parts hop =>
    exact v_trs hw (fun H => buildA P t (parts.toList.map fun (p : Nat × Operand) => (p.1, aEval T p.2))) (fun H => by unfold opA; simp only [hop]) h fun a e H hs => e
  case h_7 t len parts hop =>
    exact vh_trs (fun H => buildSliceA P H t len (parts.toList.map fun (p : Nat × Operand) => (p.1, aEval T p.2))) (fun H => by unfold opA; simp only [hop]) h fun a M' e => buildSliceA_trs hw e
  case h_8 t a hop =>
    split at h
    · rename_i o1 i ha
      exact v_trs hw (fun H => loadVarA P E H t o1 i) (fun H => by unfold opA; simp only [hop, ha]) h fun a e H hs => loadVarA_sub hs e
    · cases h
  case h_9 t a x hop =>
    split at h
    · rename_i o1 i ha
      split at h
      · rename_i hsz
        exact h_trs (fun H => storeRange H o1 i (aEval T x).cells) (fun H => by unfold opA; simp only [hop, ha, hsz, if_true]) h fun M' e => storeRange_trs hw e
      · cases h
    · cases h
  case h_10 x hop =>
    split at h
    all_goals first | (cases h; done) | skip
    rename_i g1 g2 g3 g4 g5
    cases h
    refine pure_trs hw fun H hs => ?_
    unfold opA; simp only [hop]
  case h_11 op t x y _w hop =>
    split at h
    · rename_i hg
      exact v_trs hw (fun H => binA P op t (aEval T x) (aEval T y)) (fun H => by unfold opA; simp only [hop, hg, if_true]) h fun a e H hs => e
    · cases h
  case h_12 op _t x hop =>
    exact v_trs hw (fun H => unA op (aEval T x)) (fun H => by unfold opA; simp only [hop]) h fun a e H hs => e
  case h_13 src dst x hop =>
    exact vh_trs (fun H => convA P E H src dst (aEval T x)) (fun H => by unfold opA; simp only [hop]) h fun a M' e => convA_trs hw e
  case h_14 t x hop =>
    split at h
    · cases h
    · rename_i u hne hu
      cases h; exact pure_trs hw fun H hs => by unfold opA; simp only [hop, hu]
    · cases h
  case h_15 fn first captured hop =>
    cases h; exact pure_trs hw fun H hs => by unfold opA; simp only [hop]
  case h_16 _t r hop =>
    split at h
    · cases h
      obtain ⟨ts, g1, g2, g3⟩ := trs_new hw (o := .map [] 0) (by simp [preOf])
      exact ⟨ts, g1 M (Sub.refl M), g2, g3, fun H hs => by unfold opA; simp only [hop, hs.next, g1 H hs]⟩
    · cases h
  case h_17 t l c hop =>
    exact vh_trs (fun H => makeSliceA P H t (aEval T l) (aEval T c)) (fun H => by unfold opA; simp only [hop]) h fun a M' e => makeSliceA_trs hw e
  case h_18 t x lo hi mx hop =>
    exact v_trs hw (fun H => sliceA P H t (aEval T x) (lo.map (aEval T)) (hi.map (aEval T)) (mx.map (aEval T))) (fun H => by unfold opA; simp only [hop]) h fun a e H hs => sliceA_sub hs e
  case h_19 s x f hop =>
    exact v_trs hw (fun H => fieldAtA P s (aEval T x) f) (fun H => by unfold opA; simp only [hop]) h fun a e H hs => e
  case h_20 s x f hop =>
    exact v_trs hw (fun H => fieldA P s (aEval T x) f) (fun H => by unfold opA; simp only [hop]) h fun a e H hs => e
  case h_21 t x ix hop =>
    exact v_trs hw (fun H => indexAtA P t (aEval T x) (aEval T ix)) (fun H => by unfold opA; simp only [hop]) h fun a e H hs => e
  case h_22 t x ix hop =>
    exact v_trs hw (fun H => indexA P t (aEval T x) (aEval T ix)) (fun H => by unfold opA; simp only [hop]) h fun a e H hs => e
  case h_23 t x ix ok hop =>
    exact v_trs hw (fun H => lookupA P H t (aEval T x) (aEval T ix) ok) (fun H => by unfold opA; simp only [hop]) h fun a e H hs => lookupA_sub hs e
  case h_24 t m k x hop =>
    exact h_trs (fun H => updateA P H t (aEval T m) (aEval T k) (aEval T x)) (fun H => by unfold opA; simp only [hop]) h fun M' e => updateA_trs hw e
  case h_25 t m k x hop =>
    exact h_trs (fun H => updateA P H t (aEval T m) (aEval T k) (aEval T x)) (fun H => by unfold opA; simp only [hop]) h fun M' e => updateA_trs hw e
  case h_26 t m k hop =>
    exact vh_trs (fun H => entryA P H t (aEval T m) (aEval T k)) (fun H => by unfold opA; simp only [hop]) h fun a M' e => entryA_trs hw e
  case h_27 _t m s x hop =>
    exact h_trs (fun H => entryStoreA H (aEval T m) (aEval T s) (aEval T x)) (fun H => by unfold opA; simp only [hop]) h fun M' e => entryStoreA_trs hw e
  case h_28 x _t asserted ok hop =>
    exact v_trs hw (fun H => assertA P (aEval T x) asserted ok) (fun H => by unfold opA; simp only [hop]) h fun a e H hs => e
  case h_29 t ix hop =>
    split at h
    · rename_i vs hv
      exact v_trs hw (fun H => vs[ix]?) (fun H => by unfold opA; simp only [hop, hv]) h fun a e H hs => e
    · cases h
  case h_30 c hop => exact callA_trs hw hop h
  case h_31 => cases h
end
end Go.Am
