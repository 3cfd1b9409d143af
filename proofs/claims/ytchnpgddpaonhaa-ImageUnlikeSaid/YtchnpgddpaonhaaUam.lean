/-
  Texts Am33, as far as they are used.
-/
import Derived.Test.YtchnpgddpaonhaaUal
import Derived.ChangeSlices
import Derived.Carry
section
namespace Go.Am
open Go.ChangeShapes Go.WideShapes Go.ChangeAt Go.RowKit
set_option linter.unusedVariables false
/-- A value of the caller's, none that holds others. -/
def old1 : Value → AV
  | .slice (some a) len cap => if len ≤ cap ∧ (cap = 0 ∨ a.spot = none) then .slc (.old a.block) a.off len cap true 1 else .opq (.slice (some a) len cap)
  | .pointer (some a) => if a.spot = none then .ptr (.old a.block) a.off else .opq (.pointer (some a))
  | v => ofVal1 v
def oldV : Value → AV
  | .agg cs => .agg (cs.toList.map old1)
  | v => old1 v
theorem rel_old1 (ρ : LMap) (v : Value) : rel ρ (old1 v) v := by
  unfold old1
  split
  · rename_i a len cap
    split
    · rename_i h
      simp only [rel, baseOf, roomOk]
      refine ⟨a, cap, rfl, h.1, Nat.le_refl _, fun _ => rfl, ?_, trivial⟩
      rcases h.2 with e | e
      · exact .inl e
      · right
        refine ⟨a.block, 0, rfl, ?_⟩
        obtain ⟨b, o, s⟩ := a
        simp only at e
        subst e
        simp
    · simp only [rel]
  · rename_i a
    split
    · rename_i e
      simp only [rel, baseOf]
      refine ⟨a.block, 0, rfl, ?_⟩
      obtain ⟨b, o, s⟩ := a
      simp only at e
      subst e
      simp
    · simp only [rel]
  · exact rel_ofVal1 _
theorem relL_old1 (ρ : LMap) : ∀ l : List Value, relL ρ (l.map old1) l
  | [] => relL_nil.2 rfl
  | v :: l => relL_cons.2 ⟨rel_old1 ρ v, relL_old1 ρ l⟩
theorem rel_oldV (ρ : LMap) (v : Value) : rel ρ (oldV v) v := by
  unfold oldV
  split
  · simp only [rel]
    exact ⟨_, rfl, relL_old1 ρ _⟩
  · exact rel_old1 ρ _
theorem relL_oldV (ρ : LMap) : ∀ l : List Value, relL ρ (l.map oldV) l
  | [] => relL_nil.2 rfl
  | v :: l => relL_cons.2 ⟨rel_oldV ρ v, relL_oldV ρ l⟩
/-- The caller's memory. -/
def envOf (W : World) : Env := fun b => match W.heap[b]? with
  | some (.cells arr _ _) => some (arr.toList.map old1)
  | _ => none
theorem envOf_ok (W : World) (b : Nat) (cs : List AV) (h : envOf W b = some cs) : b < W.heap.size ∧ ∃ arr el fr, W.heap[b]? = some (.cells arr el fr) ∧ relL (fun _ => none) cs arr.toList := by
  unfold envOf at h
  split at h
  · rename_i arr el fr e
    cases h
    exact ⟨(Array.getElem?_eq_some_iff.1 e).1, arr, el, fr, e, relL_old1 _ _⟩
  · cases h
/-- FROM A LAW'S RULE TO ITS CALL. -/
theorem calls_law {P : Program} {f : FuncId} {W : World} {vargs : Array Value} (h : FnW P (envOf W) W f (vargs.toList.map oldV) AHeap.empty fun v _ => v = .bool true) :
    Calls P f vargs W fun e w => e = .returned (.bool true) ∧ Kept W w :=
  calls_true_W h (envOf_ok W) (relL_oldV _ _)
theorem Kept.same {W W' : World} (h : Kept W W') {p : MemPlace} (hp : p.block < W.heap.size) : W.sameAt W' p := by
  cases p with
  | cell b off =>
    show W'.cell? ⟨b, off, none⟩ = W.cell? ⟨b, off, none⟩
    unfold World.cell?
    rw [h.2.2 b hp]
  | map b =>
    show W'.heap[b]? = W.heap[b]?
    exact h.2.2 b hp
theorem trodAll_stays {H : Type} {enc : TypeId × Value → H} {P : Program} (hl : laidOutB P = true) {W W' : World} {sp : Nat → Bool} : ∀ {ts : List TypeId} {vs : List Value} {ds : List (DataW H)} {ps : List MemPlace}, (∀ t ∈ ts, P.readableRec t = true ∧ t < P.types.size) →
    DataW.TrodAll enc P W 0 (fun _ => true) true ts vs ds ps → (∀ p ∈ ps, W.sameAt W' p) → (∀ p ∈ ps, sp p.block = true) → DataW.TrodAll enc P W' 0 sp true ts vs ds ps
  | [], [], [], ps, _, h, _, _ => h
  | t :: ts, v :: vs, d :: ds, ps, ht, h, hs, hp => by
    obtain ⟨p, q, h1, h2, rfl⟩ := h
    refine ⟨p, q, WideElems.Trod_stays hl (ht t List.mem_cons_self).1 (ht t List.mem_cons_self).2 h1 (fun x hx => hs x (List.mem_append_left _ hx)) (fun x hx => hp x (List.mem_append_left _ hx)), ?_, rfl⟩
    exact trodAll_stays hl (fun t ht' => ht t (List.mem_cons_of_mem _ ht')) h2 (fun x hx => hs x (List.mem_append_right _ hx)) (fun x hx => hp x (List.mem_append_right _ hx))
/-- A law that reads its arguments, true: the row's promise. -/
theorem post_of_law {H : Type} {enc : TypeId × Value → H} {P : Program} {f : Func} {s : ChangeSpec} {apart fresh handsOn again : Bool} {W W' : World} {args : Array Value} {ds gs : List (DataW H)} {before : List MemPlace} {b : TypeId}
    (hW : DataW.Whole enc P f.params.toList s.vars apart W args.toList ds gs before) (hvars : s.vars = []) (hl : laidOutB P = true) (hts : ∀ t ∈ f.params.toList, P.readableRec t = true ∧ t < P.types.size)
    (hb : P.underlying b = some .bool) (hrt : f.resultTypes = #[b])
    (hres : (s.fn H ds).results = [.lit (.bool true)]) (hargs : (s.fn H ds).args = ds) (hvs : (s.fn H ds).vars = []) (hk : Kept W W') :
    s.post enc P f apart fresh handsOn again W args (.bool true) W' := by
  have hW' := hW
  obtain ⟨p, q, hA, hV, rfl, _, _⟩ := hW
  rw [hvars] at hV
  obtain ⟨rfl, rfl⟩ := trodVars_none hV
  have hlt : ∀ x ∈ p, x.block < W.heap.size := fun x hx => hW'.lt x (by simpa using hx)
  refine post_of_kept (pa := p) (pv := []) hW' ?_ ?_ ?_ rfl hk ?_
  · intro b0 sp hd
    rw [List.append_nil, hres, hrt]
    exact trodAll_cons_mk (shut_bool hb _) trodAll_mk0
  · intro sp hsp
    rw [List.append_nil, hargs]
    exact trodAll_stays hl hts hA (fun x hx => hk.same (hlt x hx)) (fun x hx => hsp x (by simpa using hx))
  · intro sp _
    rw [hvars, List.append_nil, hvs]
    rfl
  · intro j t r h1 h2
    rw [hrt] at h1 h2
    match j, h1, h2 with
    | 0, h1, h2 =>
      simp [Value.resultList] at h1 h2
      subst h1 h2
      exact okWide_bool_mk hb _
theorem spot_of_cell {w : World} {a : Addr} {v : Value} (h : w.cell? a = some v) : a.spot = none ∧ ∃ arr el fr, w.heap[a.block]? = some (.cells arr el fr) ∧ arr[a.off]? = some v := by
  unfold World.cell? at h
  split at h
  · rename_i c el fr hb
    split at h
    · cases h
    · rename_i hns
      exact ⟨by cases hs : a.spot with
        | none => rfl
        | some x => rw [hs] at hns; exact (hns rfl).elim, c, el, fr, hb, h⟩
  · cases h
end Go.Am
end
