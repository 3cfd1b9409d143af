/-
  The caller's memory and arguments, for a law that reads them.
-/
import Derived.Test.YtcboaonbfgjmgaaAm32
import Derived.ChangeSlices
import Derived.Carry
namespace Go.Am
open Go.ChangeShapes Go.WideShapes Go.ChangeAt Go.RowKit
set_option linter.unusedVariables false

/-- A value of the caller's, none that holds others. -/
def old1 : Value → AV
  | .slice (some a) len cap => if len ≤ cap ∧ (cap = 0 ∨ a.spot = none) then .slc (.old a.block) a.off len cap true 1 else .opq (.slice (some a) len cap)
  | .pointer (some a) => if a.spot = none then .ptr (.old a.block) a.off else .opq (.pointer (some a))
  | v => ofVal1 v
def oldV : Value → AV
  | .agg cs => .agg (cs.toList.map old1)
  | v => old1 v

theorem rel_old1 (ρ : LMap) (v : Value) : rel ρ (old1 v) v := by
  unfold old1
  split
  · rename_i a len cap
    split
    · rename_i h
      simp only [rel, baseOf, roomOk]
      refine ⟨a, cap, rfl, h.1, Nat.le_refl _, fun _ => rfl, ?_, trivial⟩
      rcases h.2 with e | e
      · exact .inl e
      · right
        refine ⟨a.block, 0, rfl, ?_⟩
        obtain ⟨b, o, s⟩ := a
        simp only at e
        subst e
        simp
    · simp only [rel]
  · rename_i a
    split
    · rename_i e
      simp only [rel, baseOf]
      refine ⟨a.block, 0, rfl, ?_⟩
      obtain ⟨b, o, s⟩ := a
      simp only at e
      subst e
      simp
    · simp only [rel]
  · exact rel_ofVal1 _
theorem relL_old1 (ρ : LMap) : ∀ l : List Value, relL ρ (l.map old1) l
  | [] => relL_nil.2 rfl
  | v :: l => relL_cons.2 ⟨rel_old1 ρ v, relL_old1 ρ l⟩
theorem rel_oldV (ρ : LMap) (v : Value) : rel ρ (oldV v) v := by
  unfold oldV
  split
  · simp only [rel]
    exact ⟨_, rfl, relL_old1 ρ _⟩
  · exact rel_old1 ρ _
theorem relL_oldV (ρ : LMap) : ∀ l : List Value, relL ρ (l.map oldV) l
  | [] => relL_nil.2 rfl
  | v :: l => relL_cons.2 ⟨rel_oldV ρ v, relL_oldV ρ l⟩

/-- The caller's memory. -/
def envOf (W : World) : Env := fun b => match W.heap[b]? with
  | some (.cells arr _ _) => some (arr.toList.map old1)
  | _ => none

theorem envOf_ok (W : World) (b : Nat) (cs : List AV) (h : envOf W b = some cs) : b < W.heap.size ∧ ∃ arr el fr, W.heap[b]? = some (.cells arr el fr) ∧ relL (fun _ => none) cs arr.toList := by
  unfold envOf at h
  split at h
  · rename_i arr el fr e
    cases h
    exact ⟨(Array.getElem?_eq_some_iff.1 e).1, arr, el, fr, e, relL_old1 _ _⟩
  · cases h

/-- FROM A LAW'S RULE TO ITS CALL. -/
theorem calls_law {P : Program} {f : FuncId} {W : World} {vargs : Array Value} (h : FnW P (envOf W) W f (vargs.toList.map oldV) AHeap.empty fun v _ => v = .bool true) :
    Calls P f vargs W fun e w => e = .returned (.bool true) ∧ Kept W w :=
  calls_true_W h (envOf_ok W) (relL_oldV _ _)

theorem Kept.same {W W' : World} (h : Kept W W') {p : MemPlace} (hp : p.block < W.heap.size) : W.sameAt W' p := by
  cases p with
  | cell b off =>
    show W'.cell? ⟨b, off, none⟩ = W.cell? ⟨b, off, none⟩
    unfold World.cell?
    rw [h.2.2 b hp]
  | map b =>
    show W'.heap[b]? = W.heap[b]?
    exact h.2.2 b hp

theorem trodAll_stays {H : Type} {enc : TypeId × Value → H} {P : Program} (hl : laidOutB P = true) {W W' : World} {sp : Nat → Bool} : ∀ {ts : List TypeId} {vs : List Value} {ds : List (DataW H)} {ps : List MemPlace}, (∀ t ∈ ts, P.readableRec t = true ∧ t < P.types.size) →
    DataW.TrodAll enc P W 0 (fun _ => true) true ts vs ds ps → (∀ p ∈ ps, W.sameAt W' p) → (∀ p ∈ ps, sp p.block = true) → DataW.TrodAll enc P W' 0 sp true ts vs ds ps
  | [], [], [], ps, _, h, _, _ => h
  | t :: ts, v :: vs, d :: ds, ps, ht, h, hs, hp => by
    obtain ⟨p, q, h1, h2, rfl⟩ := h
    refine ⟨p, q, WideElems.Trod_stays hl (ht t List.mem_cons_self).1 (ht t List.mem_cons_self).2 h1 (fun x hx => hs x (List.mem_append_left _ hx)) (fun x hx => hp x (List.mem_append_left _ hx)), ?_, rfl⟩
    exact trodAll_stays hl (fun t ht' => ht t (List.mem_cons_of_mem _ ht')) h2 (fun x hx => hs x (List.mem_append_right _ hx)) (fun x hx => hp x (List.mem_append_right _ hx))

/-- A law that reads its arguments, true: the row's promise. -/
theorem post_of_law {H : Type} {enc : TypeId × Value → H} {P : Program} {f : Func} {s : ChangeSpec} {apart fresh handsOn again : Bool} {W W' : World} {args : Array Value} {ds gs : List (DataW H)} {before : List MemPlace} {b : TypeId}
    (hW : DataW.Whole enc P f.params.toList s.vars apart W args.toList ds gs before) (hvars : s.vars = []) (hl : laidOutB P = true) (hts : ∀ t ∈ f.params.toList, P.readableRec t = true ∧ t < P.types.size)
    (hb : P.underlying b = some .bool) (hrt : f.resultTypes = #[b])
    (hres : (s.fn H ds).results = [.lit (.bool true)]) (hargs : (s.fn H ds).args = ds) (hvs : (s.fn H ds).vars = []) (hk : Kept W W') :
    s.post enc P f apart fresh handsOn again W args (.bool true) W' := by
  have hW' := hW
  obtain ⟨p, q, hA, hV, rfl, _, _⟩ := hW
  rw [hvars] at hV
  obtain ⟨rfl, rfl⟩ := trodVars_none hV
  have hlt : ∀ x ∈ p, x.block < W.heap.size := fun x hx => hW'.lt x (by simpa using hx)
  refine post_of_kept (pa := p) (pv := []) hW' ?_ ?_ ?_ rfl hk ?_
  · intro b0 sp hd
    rw [List.append_nil, hres, hrt]
    exact trodAll_cons_mk (shut_bool hb _) trodAll_mk0
  · intro sp hsp
    rw [List.append_nil, hargs]
    exact trodAll_stays hl hts hA (fun x hx => hk.same (hlt x hx)) (fun x hx => hsp x (by simpa using hx))
  · intro sp _
    rw [hvars, List.append_nil, hvs]
    rfl
  · intro j t r h1 h2
    rw [hrt] at h1 h2
    match j, h1, h2 with
    | 0, h1, h2 =>
      simp [Value.resultList] at h1 h2
      subst h1 h2
      exact okWide_bool_mk hb _

theorem spot_of_cell {w : World} {a : Addr} {v : Value} (h : w.cell? a = some v) : a.spot = none ∧ ∃ arr el fr, w.heap[a.block]? = some (.cells arr el fr) ∧ arr[a.off]? = some v := by
  unfold World.cell? at h
  split at h
  · rename_i c el fr hb
    split at h
    · cases h
    · rename_i hns
      exact ⟨by cases hs : a.spot with
        | none => rfl
        | some x => rw [hs] at hns; exact (hns rfl).elim, c, el, fr, hb, h⟩
  · cases h

/-- A slice of numbers of the caller's. -/
theorem old_ints {H : Type} {enc : TypeId × Value → H} {P : Program} {W : World} {b0 : Nat} {r : Reach} {hd : Bool} {t e : TypeId} {k : IntKind} {v : Value} {d : DataW H} {ps : List MemPlace} (ht : P.underlying t = some (.slice e)) (he : P.underlying e = some (.int k)) (hc : P.cellsOf e = 1)
    (hv : Value.okWide P W r b0 t v) (h : DataW.Trod enc P W 0 (fun _ => true) hd t v d ps) :
    (oldV v = .nilSlc) ∨ ∃ (b i len cap : Nat) (zs : List Int), oldV v = .slc (.old b) i len cap true 1 ∧ len ≤ cap ∧ cap ≤ maxLen ∧ zs.length = len ∧ (∀ z ∈ zs, (Lit.int k z).wf = true) ∧
      (len = 0 ∨ ∃ cs, envOf W b = some cs ∧ i + len ≤ cs.length ∧ (cs.drop i).take len = zs.map fun z => .int k z) := by
  obtain ⟨n, hn⟩ := h
  obtain ⟨a0, l0, c0, rfl⟩ := okWide_slice ht hv
  rcases open_ints ht he hc hn with ⟨e1, _⟩ | ⟨a, len, cap, zs, e1, _, hl, hm, hz, _, hcell, hwf⟩
  · simp only [Value.cells] at e1
    cases e1
    exact .inl rfl
  · right
    simp only [Value.cells] at e1
    have e2 : Value.slice a0 l0 c0 = .slice (some a) len cap := by simpa using e1
    rw [e2]
    simp only [if_true] at hz
    have hs : cap = 0 ∨ a.spot = none := by
      by_cases h0 : cap = 0
      · exact .inl h0
      · have := hcell 0 (by omega)
        exact .inr (spot_of_cell this).1
    refine ⟨a.block, a.off, len, cap, zs.take len, ?_, hl, hm, by rw [List.length_take]; omega, fun z hz => hwf z (List.mem_of_mem_take hz), ?_⟩
    · simp only [oldV, old1]
      rw [if_pos ⟨hl, hs⟩]
    · by_cases h0 : len = 0
      · exact .inl h0
      · right
        have hs' : a.spot = none := hs.resolve_left (by omega)
        have hadd : ∀ i, a.add i = ⟨a.block, a.off + i, none⟩ := by
          intro i
          unfold Addr.add
          split
          · rename_i e; subst e
            obtain ⟨b, o, s⟩ := a
            simp only at hs'
            subst hs'
            rfl
          · obtain ⟨b, o, s⟩ := a
            simp only at hs'
            subst hs'
            rfl
        obtain ⟨_, arr, el, fr, hb, _⟩ := spot_of_cell (hcell 0 (by omega))
        rw [hadd] at hb
        simp only at hb
        have hget : ∀ i, i < zs.length → arr[a.off + i]? = some (.int k (zs.getD i 0)) := by
          intro i hi
          have := hcell i hi
          rw [hadd] at this
          obtain ⟨_, arr', el', fr', hb', h2⟩ := spot_of_cell this
          simp only at hb' h2
          rw [hb] at hb'
          cases hb'
          exact h2
        refine ⟨arr.toList.map old1, ?_, ?_, ?_⟩
        · unfold envOf; rw [hb]
        · have := (Array.getElem?_eq_some_iff.1 (hget (len - 1) (by omega))).1
          simp only [List.length_map, Array.length_toList]
          omega
        · refine List.ext_getElem? fun i => ?_
          rw [List.getElem?_take]
          split
          · rename_i hi
            rw [List.getElem?_drop, List.getElem?_map, Array.getElem?_toList, hget i (by omega), List.getElem?_map, List.getElem?_take, if_pos hi, List.getD_eq_getElem?_getD, List.getElem?_eq_getElem (by omega)]
            rfl
          · rename_i hi
            rw [List.getElem?_map, List.getElem?_take, if_neg hi]
            rfl
end Go.Am
