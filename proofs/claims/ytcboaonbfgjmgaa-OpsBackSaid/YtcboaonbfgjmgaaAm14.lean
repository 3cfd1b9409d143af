/-
  Operations of the abstract machine and of the model: stores, calls, and all operations together.
-/
import Derived.Test.YtcboaonbfgjmgaaAm13
namespace Go.Am
section
variable {E : Env} {w0 : World} {H : AHeap} {w : World} {ρ : LMap} {P : Program}

theorem Gives.of_turns {H' : AHeap} {w' : World} {a : AV} {v : Value} {r : Result Value} (h : r = .ok v w') (hr : Rep E w0 H' w' ρ) (hn : H'.next = H.next) (ha : rel ρ a v) :
    Gives E w0 H ρ a H' r := ⟨v, w', ρ, h, Ext.refl _, fun _ _ => rfl, ha, hr, by omega⟩

theorem next_storeRange {o : Id} {i : Nat} {vs : List AV} {H' : AHeap} (h : storeRange H o i vs = some H') : H'.next = H.next := by
  unfold storeRange at h
  split at h
  · cases h; rfl
  · split at h
    · cases h
    · split at h
      · split at h
        · cases h; simp
        · cases h
      · cases h

theorem copyA_sound (R : Rep E w0 H w ρ) {dT ty : TypeId} {tys : Array TypeId} (a0 : tys[0]? = some dT) {d x a : AV} {vd vx : Value} {H' : AHeap} (h : copyA P E H dT d x = some (a, H')) (hd : rel ρ d vd) (hx : rel ρ x vx) :
    Gives E w0 H ρ a H' ((Builtin.copy_ tys ty #[vd, vx]).run P w) := by
  unfold copyA at h
  simp only [Option.bind_eq_bind, Option.bind_eq_some_iff] at h
  obtain ⟨e, he, size, hs, k, hk, h⟩ := h
  have b0 : (#[vd, vx] : Array Value)[0]? = some vd := rfl
  have b1 : (#[vd, vx] : Array Value)[1]? = some vx := rfl
  have hl := run_lenOf (P := P) hk hx w
  split at h
  · cases h
    simp only [rel] at hd; subst hd
    refine Gives.same R (v := goInt 0) ?_ (by simp only [rel, goInt])
    have hfc : (Builtin.firstCells size 0 vx).run P w = .ok #[] w := by
      have : firstA E H size 0 x = some [] ∨ True := .inr trivial
      unfold lenOfA at hk
      split at hk
      · simp only [rel] at hx; subst hx; rfl
      · simp only [rel] at hx; obtain ⟨ad, c, rfl, _⟩ := hx
        simp [Builtin.firstCells, loadCells, loadCellsFrom]
      · simp only [rel] at hx; subst hx
        simp only [Builtin.firstCells, Sem.run_pure]
        congr 1
        apply Array.ext'
        simp
      · cases hk
    simp only [Builtin.copy_, a0, b0, b1, Sem.run_bind, run_underlyingA (elemA_some he), Result.andThen_ok, hl, run_sizeA hs, Nat.min_def, Nat.le_zero_eq]
    by_cases h0 : k = 0
    · subst h0; rw [if_pos rfl, hfc]; rfl
    · rw [if_neg h0, hfc]; rfl
  · rename_i o i len cap ex sz
    simp only [Option.bind_eq_some_iff] at h
    obtain ⟨news, hn, H1, hst, h⟩ := h
    cases h
    simp only [rel] at hd
    obtain ⟨ad, c, rfl, g1, g2, g3, g4, g5⟩ := hd
    obtain ⟨nv, r1, r2⟩ := run_firstCells (P := P) R hk (Nat.min_le_left _ _) hn hx
    have hrun : ∀ w', (storeCells ad nv).run P w = .ok () w' → (Builtin.copy_ tys ty #[.slice (some ad) len c, vx]).run P w = .ok (.int .i64 (min k len : Nat)) w' := by
      intro w' hw'
      simp only [Builtin.copy_, a0, b0, b1, Sem.run_bind, run_underlyingA (elemA_some he), Result.andThen_ok, hl, run_sizeA hs]
      rw [show k.min len = min k len from rfl, r1 w rfl]
      simp only [Result.andThen_ok, hw', Sem.run_pure, goInt]
    rcases R.stores (P := P) hst r2 with ⟨rfl, rfl, rfl⟩ | ⟨hnn, b, d, w', hb, hw', R'⟩
    · exact Gives.same R (hrun w rfl) (by simp only [rel])
    · have hne : c ≠ 0 := by
        rintro rfl
        have hlen0 : len = 0 := by omega
        subst hlen0
        refine hnn ?_
        unfold firstA at hn
        split at hn
        · cases hn; rfl
        · have : (min k 0) * size = 0 := by simp
          rw [this] at hn
          unfold rangeOr at hn
          rw [if_pos rfl] at hn
          cases hn; rfl
        · cases hn; simp
        · cases hn
      obtain ⟨b', d', hb', rfl⟩ := g4.resolve_left hne
      rw [hb] at hb'; cases hb'
      exact Gives.of_turns (hrun w' hw') R' (next_storeRange hst) (by simp only [rel])
  · cases h

theorem storeA_sound (R : Rep E w0 H w ρ) {t : TypeId} {o : Id} {i : Nat} {x : AV} {va vx : Value} {H' : AHeap} (hs : sizeA P t = some x.cells.length) (h : storeRange H o i x.cells = some H')
    (ha : rel ρ (.ptr o i) va) (hx : rel ρ x vx) : Turns E w0 ρ H' ((Instr.storeAt t va vx).run P w) ∧ H'.next = H.next := by
  refine ⟨?_, next_storeRange h⟩
  have hc := rel_cells hx
  have hl := relL_length hc
  simp only [Array.length_toList] at hl
  simp only [rel] at ha
  obtain ⟨b, d, hb, rfl⟩ := ha
  have hrun : ∀ w', (storeCells ⟨b, d + i, none⟩ vx.cells.toList).run P w = .ok () w' → (Instr.storeAt t (.pointer (some ⟨b, d + i, none⟩)) vx).run P w = .ok () w' := by
    intro w' hw'
    simp only [Instr.storeAt, Instr.sureAddr, storeVar, Sem.run_bind, Sem.run_pure, Result.andThen_ok, run_sizeA hs]
    rw [if_neg (by omega)]
    exact hw'
  rcases R.stores (P := P) h hc with ⟨h1, h2, rfl⟩ | ⟨_, b', d', w', hb', hw', R'⟩
  · exact ⟨w, hrun w (by rw [h2]; rfl), R⟩
  · rw [hb] at hb'; cases hb'
    exact ⟨w', hrun w' hw', R'⟩

def relPlace (ρ : LMap) : APlace → Go.Place → Prop
  | .val a, .val v => rel ρ a v
  | .var o i, .var ad => ∃ b d, baseOf ρ o = some (b, d) ∧ ad = ⟨b, d + i, none⟩
  | _, _ => False

theorem placeGet_sound (R : Rep E w0 H w ρ) {t : TypeId} {x : APlace} {p : Go.Place} {a : AV} (h : x.get P E H t = some a) (hx : relPlace ρ x p) : ∃ v, (p.get t).run P w = .ok v w ∧ rel ρ a v := by
  cases x with
  | val a' =>
    cases p with
    | val v => simp only [APlace.get] at h; cases h; exact ⟨v, rfl, hx⟩
    | var ad => exact hx.elim
  | var o i =>
    cases p with
    | val v => exact hx.elim
    | var ad =>
      obtain ⟨b, d, hb, rfl⟩ := hx
      simp only [APlace.get] at h
      obtain ⟨b', d', v, h1, h2, h3⟩ := loadVarA_sound (P := P) R h
      rw [hb] at h1; cases h1
      exact ⟨v, h2, h3⟩

theorem followA_sound (R : Rep E w0 H w ρ) : ∀ {path : List FieldStep} {t t' : TypeId} {x x' : APlace} {p : Go.Place}, followA P E H path t x = some (t', x') → relPlace ρ x p →
    ∃ p', (Go.follow path t p).run P w = .ok (t', p') w ∧ relPlace ρ x' p'
  | [], t, t', x, x', p, h, hx => by
    simp only [followA] at h; cases h
    exact ⟨p, rfl, hx⟩
  | s :: rest, t, t', x, x', p, h, hx => by
    simp only [followA, Option.bind_eq_bind, Option.bind_eq_some_iff] at h
    obtain ⟨fd, hfd, h⟩ := h
    obtain ⟨fields, hu, hf⟩ := fieldOf_some hfd
    split at h
    · rename_i hc
      obtain ⟨n, hn⟩ := Option.isSome_iff_exists.1 hc.1
      have hn0 : n ≠ 0 := by rintro rfl; exact hc.2 hn
      split at h
      · rename_i hder
        simp only [Option.bind_eq_some_iff] at h
        obtain ⟨a, ha, h⟩ := h
        split at h
        · rename_i o i
          obtain ⟨v, h1, h2⟩ := placeGet_sound (P := P) R ha hx
          simp only [rel] at h2
          obtain ⟨b, d, hb, rfl⟩ := h2
          obtain ⟨p', g1, g2⟩ := followA_sound R (p := .var ⟨b, d + i + fd.offset, none⟩) h ⟨b, d, hb, by rw [Nat.add_assoc]⟩
          refine ⟨p', ?_, g2⟩
          simp only [Go.follow, Sem.run_bind, run_underlyingA hu, Result.andThen_ok, hf, hder, if_true, h1, asAddr, Sem.run_pure, run_fieldPlace hn hn0, g1]
        · cases h
      · rename_i hder
        split at h
        · rename_i o i
          cases p with
          | val v => exact hx.elim
          | var ad =>
            obtain ⟨b, d, hb, rfl⟩ := hx
            obtain ⟨p', g1, g2⟩ := followA_sound R (p := .var ⟨b, d + i + fd.offset, none⟩) h ⟨b, d, hb, by rw [Nat.add_assoc]⟩
            refine ⟨p', ?_, g2⟩
            simp only [Go.follow, Sem.run_bind, run_underlyingA hu, Result.andThen_ok, hf, hder, Bool.false_eq_true, if_false, run_fieldPlace hn hn0, g1]
        · rename_i cs
          simp only [Option.bind_eq_some_iff] at h
          obtain ⟨y, hy, h⟩ := h
          cases p with
          | var ad => exact hx.elim
          | val v =>
            simp only [relPlace, rel] at hx
            obtain ⟨xs, rfl, hr⟩ := hx
            obtain ⟨v, h1, h2⟩ := partA_sound hr hy w
            obtain ⟨p', g1, g2⟩ := followA_sound R (p := .val v) h h2
            refine ⟨p', ?_, g2⟩
            simp only [Go.follow, Sem.run_bind, run_underlyingA hu, Result.andThen_ok, hf, hder, Bool.false_eq_true, if_false, h1, g1]
        · cases h
    · cases h

theorem methodA_sound (R : Rep E w0 H w ρ) {t : TypeId} {a r : AV} {v : Value} {name : String} {f : FuncId} {fuel : Nat} (h : methodA P E H t a name = some (f, r)) (hv : rel ρ a v) :
    ∃ vr, (Go.method (fuel + 1) t v name).run P w = .ok (f, vr) w ∧ rel ρ r vr := by
  unfold methodA at h
  simp only [Option.bind_eq_bind, Option.bind_eq_some_iff] at h
  obtain ⟨info, hi, m, hm, ⟨xt, x⟩, hfo, ⟨g, pr⟩, hfn, h⟩ := h
  obtain ⟨p, h1, h2⟩ := followA_sound (P := P) R hfo (p := .val v) hv
  have head : ∀ (q : FuncId × Value), (do pure (g, ← Go.receiverAt xt p pr (if m.path.isEmpty then some ((name.splitOn ".").getLastD name) else none)) : Sem (FuncId × Value)).run P w = .ok q w →
      (Go.method (fuel + 1) t v name).run P w = .ok q w := by
    intro q hq
    simp only [Go.method, Sem.run_bind, run_typeInfoA hi, Result.andThen_ok, hm, h1, hfn]
    simpa only [Sem.run_bind] using hq
  simp only at h
  cases hu : P.underlying xt with
  | none => rw [hu] at h; cases h
  | some d =>
    rw [hu] at h
    by_cases hp : ∃ e, d = .pointer e
    · obtain ⟨e, rfl⟩ := hp
      cases pr with
      | false => cases h
      | true =>
        simp only [Option.map_eq_some_iff, Prod.mk.injEq] at h
        obtain ⟨y, hy, rfl, rfl⟩ := h
        obtain ⟨vr, g1, g2⟩ := placeGet_sound (P := P) R hy h2
        refine ⟨vr, head _ ?_, g2⟩
        cases p <;> simp only [Go.receiverAt, Sem.run_bind, run_underlyingA hu, Result.andThen_ok, g1, Sem.run_pure]
    · cases pr with
      | true =>
        cases x with
        | val a' => exfalso; cases d <;> first | exact hp ⟨_, rfl⟩ | cases h
        | var o i =>
          cases p with
          | val v => exact h2.elim
          | var ad =>
            obtain ⟨b, d', hb, rfl⟩ := h2
            have he : some (g, AV.ptr o i) = some (f, r) := by cases d <;> first | exact h | exact (hp ⟨_, rfl⟩).elim
            cases he
            refine ⟨.pointer (some ⟨b, d' + i, none⟩), head _ ?_, by simp only [rel]; exact ⟨b, d', hb, rfl⟩⟩
            simp only [Go.receiverAt, Sem.run_bind, run_underlyingA hu, Result.andThen_ok]
            cases d <;> first | rfl | exact (hp ⟨_, rfl⟩).elim
      | false =>
        have he : (x.get P E H xt).map (fun r => (g, r)) = some (f, r) := by cases d <;> first | exact h | exact (hp ⟨_, rfl⟩).elim
        simp only [Option.map_eq_some_iff, Prod.mk.injEq] at he
        obtain ⟨y, hy, rfl, rfl⟩ := he
        obtain ⟨vr, g1, g2⟩ := placeGet_sound (P := P) R hy h2
        refine ⟨vr, head _ ?_, g2⟩
        have : (Go.receiverAt xt p false (if m.path.isEmpty then some ((name.splitOn ".").getLastD name) else none)).run P w = .ok vr w := by
          simp only [Go.receiverAt, Sem.run_bind, run_underlyingA hu, Result.andThen_ok]
          cases d <;> first | exact (hp ⟨_, rfl⟩).elim | (cases p <;> exact g1)
        simp only [Sem.run_bind, this, Result.andThen_ok, Sem.run_pure]
end
end Go.Am
