/-
  From a call of the abstract machine to the row of a statement.
-/
import Derived.Test.YtcboaonbfgjmgaaAm27
import Derived.WalkKit
import Derived.ProofKit
import Derived.OpenShut
namespace Go.Am
open Go.ChangeShapes Go.WideShapes Go.ChangeAt Go.RowKit

/-- What was there is as it was. -/
def Kept (W w : World) : Prop := w.os = W.os ∧ w.output = W.output ∧ ∀ b, b < W.heap.size → w.heap[b]? = W.heap[b]?

theorem Kept.but {W w : World} (h : Kept W w) (may : MemPlace → Prop) : W.keptBut w may := by
  refine ⟨h.1, h.2.1, fun i hi => ?_⟩
  rw [h.2.2 i hi]
  cases e : W.heap[i]? with
  | none => simp
  | some o => cases o <;> simp

theorem Kept.frozen {W w : World} (h : Kept W w) (a : Addr) (ha : a.block < W.heap.size) : w.frozen? a = W.frozen? a := by
  unfold World.frozen?
  rw [h.2.2 a.block ha]

theorem Wf.empty : Wf AHeap.empty := by
  refine ⟨fun k _ => ?_, fun k o e => ?_⟩
  · simp [AHeap.empty, AHeap.get, Trie.get]
  · simp [AHeap.empty, AHeap.get, Trie.get] at e

theorem Rep.start (E : Env) (W : World) (hE : ∀ b cs, E b = some cs → b < W.heap.size ∧ ∃ arr el fr, W.heap[b]? = some (.cells arr el fr) ∧ relL (fun _ => none) cs arr.toList) : Rep E W AHeap.empty W (fun _ => none) := by
  have hg : ∀ k o, AHeap.empty.get k = some o → False := fun k o e => by simp [AHeap.empty, AHeap.get, Trie.get] at e
  exact ⟨Nat.le_refl _, fun _ _ => rfl, hE, ⟨rfl, rfl⟩, fun k o e => (hg k o e).elim, fun k _ o _ _ _ e => (hg k o e).elim, fun k o e => (hg k o e).elim, fun k _ o _ _ _ e => (hg k o e).elim⟩

/-- A CALL: what the abstract machine tells of it from a reading of the caller's blocks. -/
theorem calls_of_run {P : Program} (hm : P.follows .mixedOrders = true) {E : Env} {ov : OvF} {n : Nat} {f : FuncId} {args : List AV} {r : AV} {H' : AHeap} (h : callFA P E ov n f args AHeap.empty = some (r, H')) {W : World} (hov : CallOk P E W (ovCall ov)) {vargs : Array Value}
    (hE : ∀ b cs, E b = some cs → b < W.heap.size ∧ ∃ arr el fr, W.heap[b]? = some (.cells arr el fr) ∧ relL (fun _ => none) cs arr.toList) (hargs : relL (fun _ => none) args vargs.toList) :
    Calls P f vargs W fun e w => ∃ u ρ, e = .returned u ∧ rel ρ r u ∧ W.heap.size ≤ w.heap.size ∧ Kept W w := by
  have hu : Und AHeap.empty AHeap.empty H'.next := ⟨Wf.empty, Sub.refl _, fun k _ _ => by simp [AHeap.empty, AHeap.get, Trie.get]⟩
  refine Calls.mono ((callFA_ok (E := E) (w0 := W) hm hov n).2 _ _ _ _ _ _ _ h hu h W (fun _ => none) vargs (Rep.start E W hE) hargs (fun _ _ _ => rfl)) ?_
  rintro e w ⟨u, ρ, rfl, _, _, g3, g4⟩
  exact ⟨u, ρ, rfl, g3, g4.size, g4.side.1, g4.side.2, g4.old⟩

theorem calls_true {P : Program} (hm : P.follows .mixedOrders = true) {E : Env} {ov : OvF} {n : Nat} {f : FuncId} {args : List AV} {H' : AHeap} (h : callFA P E ov n f args AHeap.empty = some (.bool true, H')) {W : World} (hov : CallOk P E W (ovCall ov)) {vargs : Array Value}
    (hE : ∀ b cs, E b = some cs → b < W.heap.size ∧ ∃ arr el fr, W.heap[b]? = some (.cells arr el fr) ∧ relL (fun _ => none) cs arr.toList) (hargs : relL (fun _ => none) args vargs.toList) :
    Calls P f vargs W fun e w => e = .returned (.bool true) ∧ Kept W w := by
  refine Calls.mono (calls_of_run hm h hov hE hargs) ?_
  rintro e w ⟨u, ρ, rfl, hr, _, hk⟩
  simp only [rel] at hr
  exact ⟨by rw [hr], hk⟩

variable {P : Program} {H : Type} {enc : TypeId × Value → H}

/-- A result that holds no place, and arguments that read as they did: the row's promise. -/
theorem post_of_kept {f : Func} {s : ChangeSpec} {apart fresh handsOn again : Bool} {W W' : World} {args : Array Value} {v : Value} {ds gs : List (DataW H)} {before pa pv : List MemPlace}
    (hW : DataW.Whole enc P f.params.toList s.vars apart W args.toList ds gs before)
    (hres : ∀ (b : Nat) (sp : Nat → Bool) (hd : Bool), DataW.TrodAll enc P W' b sp hd f.resultTypes.toList (v.resultList f.resultTypes.size) (s.fn H (ds ++ gs)).results [])
    (hargs : ∀ sp : Nat → Bool, (∀ p ∈ before, sp p.block = true) → DataW.TrodAll enc P W' 0 sp true f.params.toList args.toList (s.fn H (ds ++ gs)).args pa)
    (hvars : ∀ sp : Nat → Bool, (∀ p ∈ before, sp p.block = true) → DataW.TrodVars enc P W' sp s.vars (s.fn H (ds ++ gs)).vars pv)
    (hps : before = pa ++ pv) (hk : Kept W W')
    (hok : ∀ (j : Nat) (t : TypeId) (r : Value), f.resultTypes[j]? = some t → (v.resultList f.resultTypes.size)[j]? = some r → Value.okWide P W' .any 0 t r) :
    s.post enc P f apart fresh handsOn again W args v W' := by
  have hlt : ∀ p ∈ before, p.block < W.heap.size := fun p hp => hW.lt p hp
  have hold : ∀ p ∈ before, (fun b => decide (b < W.heap.size)) p.block = true := fun p hp => by simpa using hlt p hp
  subst hps
  have hW0 := hW
  obtain ⟨_, _, _, _, _, hz, hn⟩ := hW0
  refine ⟨ds, gs, pa ++ pv, [], pa, pv, hW, hres _ _ _, hargs _ hold, hvars _ hold, hk.but _, fun _ => ⟨hok, _, _, ([] ++ pa) ++ pv, ⟨[] ++ pa, pv, trodAll_append (hargs _ fun _ _ => rfl) (hres _ _ _), hvars _ fun _ _ => rfl, rfl, ?_, ?_⟩, ?_⟩⟩
  · intro b off hp
    have hp' : MemPlace.cell b off ∈ pa ++ pv := by simpa using hp
    rw [hk.frozen _ (hlt _ hp')]
    exact hz b off hp'
  · intro ha
    simpa using hn ha
  · intro p hp _
    simpa using hp
end Go.Am
