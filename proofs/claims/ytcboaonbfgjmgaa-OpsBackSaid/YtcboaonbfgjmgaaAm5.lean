/-
  Operations of the abstract machine and of the model, one by one: values.
-/
import Derived.Test.YtcboaonbfgjmgaaAm4
import GoSem.Dispatch
namespace Go.Am
section
variable {E : Env} {w0 : World} {H : AHeap} {w : World} {ρ : LMap} {P : Program}

theorem run_underlyingA {t : TypeId} {d : TypeDesc} (h : P.underlying t = some d) (w : World) : (underlying t).run P w = .ok d w := by
  simp [underlying, h]
theorem run_typeInfoA {t : TypeId} {i : TypeInfo} (h : P.info? t = some i) (w : World) : (typeInfo t).run P w = .ok i w := by
  simp [typeInfo, h]
theorem run_sizeA {t : TypeId} {n : Nat} (h : sizeA P t = some n) (w : World) : (sizeOf t).run P w = .ok n w := by
  unfold sizeA at h
  cases e : P.info? t with
  | none => rw [e] at h; cases h
  | some i => rw [e] at h; cases h; simp [sizeOf, run_typeInfoA e]
theorem run_isAggA {t : TypeId} {b : Bool} (h : isAggA P t = some b) (w : World) : (isAgg t).run P w = .ok b w := by
  unfold isAggA at h
  split at h
  · rename_i h1; cases h; simp [isAgg, run_underlyingA h1]
  · rename_i h1; cases h; simp [isAgg, run_underlyingA h1]
  · rename_i d h1 h2 h3
    cases h
    simp only [isAgg, Sem.run_bind, run_underlyingA h3, Result.andThen_ok]
    rfl
  · cases h
theorem run_zeroA {t : TypeId} {z : AV} (h : zeroOf P t = some z) (w : World) : ∃ v, (zeroValue t).run P w = .ok v w ∧ rel ρ z v := by
  unfold zeroOf at h
  split at h
  · rename_i i hi
    cases e : i.zero with
    | none => rw [e] at h; cases h
    | some v =>
      rw [e] at h; cases h
      exact ⟨v, by simp [zeroValue, run_typeInfoA hi, e], rel_ofVal v⟩
  · cases h
theorem run_bytesA {t : TypeId} {n : Nat} (h : bytesA P t = some n) : ∃ i, P.info? t = some i ∧ i.bytes = n := by
  unfold bytesA at h
  cases e : P.info? t with
  | none => rw [e] at h; cases h
  | some i => rw [e] at h; cases h; exact ⟨i, rfl, rfl⟩
theorem elemA_some {t e : TypeId} (h : elemA P t = some e) : P.underlying t = some (.slice e) := by
  unfold elemA at h
  split at h
  · rename_i h1; cases h; exact h1
  · cases h

theorem loadVarA_sound (R : Rep E w0 H w ρ) {t : TypeId} {o : Id} {i : Nat} {a : AV} (h : loadVarA P E H t o i = some a) :
    ∃ b d v, baseOf ρ o = some (b, d) ∧ (loadVar t ⟨b, d + i, none⟩).run P w = .ok v w ∧ rel ρ a v := by
  unfold loadVarA at h
  simp only [Option.bind_eq_bind, Option.bind_eq_some_iff] at h
  obtain ⟨g, hg, h⟩ := h
  cases g with
  | true =>
    simp only [if_true, Option.bind_eq_some_iff] at h
    obtain ⟨n, hn, as, has, h⟩ := h
    cases h
    obtain ⟨b, d, vs, h1, h2, h3, _⟩ := R.loads (P := P) has
    refine ⟨b, d, .agg ⟨vs⟩, h1, ?_, by simp only [rel]; exact ⟨⟨vs⟩, rfl, h3⟩⟩
    simp [loadVar, run_isAggA hg, run_sizeA hn, h2 w rfl]
  | false =>
    simp only [Bool.false_eq_true, if_false] at h
    obtain ⟨b, d, v, h1, h2, h3⟩ := R.load h
    refine ⟨b, d, v, h1, ?_, h3⟩
    simp [loadVar, run_isAggA hg, h2]

theorem partA_sound {t : TypeId} {cs : List AV} {xs : Array Value} {off : Nat} {a : AV} (hr : relL ρ cs xs.toList) (h : partA P t cs off = some a) (w : World) :
    ∃ v, (part t xs off).run P w = .ok v w ∧ rel ρ a v := by
  unfold partA at h
  simp only [Option.bind_eq_bind, Option.bind_eq_some_iff] at h
  obtain ⟨g, hg, h⟩ := h
  cases g with
  | true =>
    simp only [if_true, Option.bind_eq_some_iff] at h
    obtain ⟨n, hn, h⟩ := h
    cases h
    refine ⟨.agg (xs.extract off (off + n)), by simp [part, run_isAggA hg, run_sizeA hn], ?_⟩
    simp only [rel]
    refine ⟨_, rfl, ?_⟩
    have := relL_take (relL_drop hr off) n
    rw [Array.toList_extract, List.extract_eq_take_drop]
    simpa using this
  | false =>
    simp only [Bool.false_eq_true, if_false] at h
    obtain ⟨v, h1, h2⟩ := relL_get hr off h
    refine ⟨v, ?_, h2⟩
    simp only [part, Sem.run_bind, run_isAggA hg, Result.andThen_ok, Bool.false_eq_true, if_false]
    rw [show xs[off]? = some v by simpa using h1]
    rfl

theorem foldl_setManyV (off : Nat) : ∀ (l : List Value) (k : Nat) (a : Array Value),
    (l.zipIdx k).foldl (fun cs (x : Value × Nat) => cs.setIfInBounds (off + x.2) x.1) a = setManyV a (off + k) l
  | [], _, _ => rfl
  | v :: l, k, a => by
    rw [List.zipIdx_cons, List.foldl_cons, foldl_setManyV off l (k + 1)]
    rfl
theorem relL_setMany0 {as : List AV} {vs : List Value} {cs : List AV} {arr : Array Value} {i : Nat} (h : relL ρ as vs) (hn : i + as.length ≤ cs.length)
    (hc : relL ρ cs arr.toList) : relL ρ (setMany cs i as) (setManyV arr i vs).toList := by
  have hl := relL_length hc
  have hc' : relL ρ cs ((arr.toList.drop 0).take cs.length) := by rw [List.drop_zero, List.take_of_length_le (by omega)]; exact hc
  have := relL_setMany (d := 0) i h hn hc'
  rw [List.drop_zero, List.take_of_length_le (by simp [size_setManyV]; simp at hl; omega), Nat.zero_add] at this
  exact this

/-- Parts and values, by their places. -/
def relP (ρ : LMap) : List (Nat × AV) → List (Nat × Value) → Prop
  | [], l => l = []
  | (i, a) :: ps, l => ∃ v r, l = (i, v) :: r ∧ rel ρ a v ∧ relP ρ ps r

theorem fillA_sound {place : Nat → Option (Nat × Nat)} : ∀ {ps : List (Nat × AV)} {qs : List (Nat × Value)} {cs cs' : List AV} {xs : Array Value},
    fillA place cs ps = some cs' → relP ρ ps qs → relL ρ cs xs.toList → ∃ xs', Instr.fill place xs qs = some xs' ∧ relL ρ cs' xs'.toList ∧ xs'.size = xs.size
  | [], qs, cs, cs', xs, h, hp, hc => by
    simp only [relP] at hp; subst hp
    simp only [fillA] at h; cases h
    exact ⟨xs, rfl, hc, rfl⟩
  | (i, a) :: ps, qs, cs, cs', xs, h, hp, hc => by
    simp only [relP] at hp
    obtain ⟨v, r, rfl, hv, hr⟩ := hp
    simp only [fillA] at h
    split at h
    · cases h
    · rename_i off size hpl
      split at h
      · rename_i hcond
        obtain ⟨h1, h2⟩ := hcond
        have hcl := rel_cells hv
        have e1 := relL_length hcl
        have e2 := relL_length hc
        simp only [Array.length_toList] at e1 e2
        obtain ⟨xs', g1, g2, g3⟩ := fillA_sound (xs := setManyV xs off v.cells.toList) h hr (relL_setMany0 hcl h2 hc)
        refine ⟨xs', ?_, g2, by rw [g3, size_setManyV]⟩
        simp only [Instr.fill, hpl]
        rw [if_neg (by simp only [Bool.or_eq_true, decide_eq_true_eq]; omega)]
        have : (v.cells.zipIdx.foldl (fun cs x => cs.setIfInBounds (off + x.2) x.1) xs) = setManyV xs off v.cells.toList := by
          rw [← Array.foldl_toList, Array.toList_zipIdx, foldl_setManyV off v.cells.toList 0 xs]; rfl
        rw [← g1]
        exact congrArg (fun y => Instr.fill place y r) this
      · cases h

theorem run_mapM_list {α β : Type} {f : α → Sem β} {g : α → Option β} : ∀ {l : List α} {r : List β}, l.mapM g = some r →
    (∀ x y, g x = some y → ∀ w, (f x).run P w = .ok y w) → ∀ w, (l.mapM f).run P w = .ok r w
  | [], r, h, _, w => by simp at h; subst h; rfl
  | x :: l, r, h, hf, w => by
    simp only [List.mapM_cons, Option.bind_eq_bind, Option.bind_eq_some_iff] at h
    obtain ⟨y, hy, ys, hys, h⟩ := h
    cases h
    simp [List.mapM_cons, hf x y hy, run_mapM_list hys hf]

theorem buildA_sound {t : TypeId} {ps : List (Nat × AV)} {qs : Array (Nat × Value)} {a : AV} (h : buildA P t ps = some a) (hp : relP ρ ps qs.toList) (w : World) :
    ∃ v, (Instr.build t qs).run P w = .ok v w ∧ rel ρ a v := by
  unfold buildA at h
  simp only [Option.bind_eq_bind, Option.bind_eq_some_iff] at h
  obtain ⟨z, hz, h⟩ := h
  obtain ⟨zv, h1, h2⟩ := run_zeroA (ρ := ρ) hz w
  have hzc := rel_cells h2
  split at h
  · rename_i fields hu
    simp only [Option.bind_eq_some_iff] at h
    obtain ⟨places, hpl, h⟩ := h
    simp only [Option.map_eq_some_iff] at h
    obtain ⟨cs, hcs, rfl⟩ := h
    obtain ⟨xs, g1, g2, _⟩ := fillA_sound hcs hp hzc
    refine ⟨.agg xs, ?_, by simp only [rel]; exact ⟨xs, rfl, g2⟩⟩
    have hm : (fields.mapM fun (f : Field) => do pure (f.offset, ← sizeOf f.type)).run P w = .ok places.toArray w := by
      rw [Array.mapM_eq_mapM_toList]
      have := run_mapM_list (P := P) (f := fun f : Field => do pure (f.offset, ← sizeOf f.type)) hpl (fun x y hy w => by
        simp only [Option.map_eq_some_iff] at hy
        obtain ⟨s, hs, rfl⟩ := hy
        simp [run_sizeA hs]) w
      simp only [Sem.run_map, this, Result.andThen_ok]
    simp only [Instr.build, Sem.run_bind, h1, Result.andThen_ok, run_underlyingA hu, hm]
    have g1' : Instr.fill (fun i => places.toArray[i]?) zv.cells qs.toList = some xs := by simpa using g1
    rw [g1']
    rfl
  · rename_i n e hu
    simp only [Option.bind_eq_some_iff] at h
    obtain ⟨size, hs, h⟩ := h
    simp only [Option.map_eq_some_iff] at h
    obtain ⟨cs, hcs, rfl⟩ := h
    obtain ⟨xs, g1, g2, _⟩ := fillA_sound hcs hp hzc
    refine ⟨.agg xs, ?_, by simp only [rel]; exact ⟨xs, rfl, g2⟩⟩
    simp only [Instr.build, Sem.run_bind, h1, Result.andThen_ok, run_underlyingA hu, run_sizeA hs, g1]
    rfl
  · cases h
end
end Go.Am
