/-
  Operations of the abstract machine and of the model, one by one: slices, fields, indices.
-/
import Derived.Test.YtcboaonbfgjmgaaAm9
namespace Go.Am
section
variable {E : Env} {w0 : World} {H : AHeap} {w : World} {ρ : LMap} {P : Program}

/-- An optional operand. -/
def relO (ρ : LMap) : Option AV → Option Value → Prop
  | none, none => True
  | some a, some v => rel ρ a v
  | _, _ => False

theorem boundA_sound {a : AV} {v : Value} {y c n : Nat} (h : boundA a y = some n) (hr : rel ρ a v) (hy : y ≤ c) (code : BoundsCode) (w : World) :
    (Instr.sliceBound v c code).run P w = .ok n w := by
  unfold boundA at h
  split at h
  · rename_i k i
    split at h
    · rename_i hc
      cases h
      simp only [rel] at hr; subst hr
      simp only [Instr.sliceBound, asIntOf, Sem.run_bind, Sem.run_pure, Result.andThen_ok]
      rw [if_pos ⟨hc.1, by omega⟩]
      rfl
    · cases h
  · cases h
theorem boundA_le {a : AV} {y n : Nat} (h : boundA a y = some n) : n ≤ y := by
  unfold boundA at h
  split at h
  · split at h
    · cases h; omega
    · cases h
  · cases h

theorem boundsA_sound {len cap c : Nat} {low high max : Option AV} {vl vh vm : Option Value} {l h m : Nat} (hb : boundsA len cap low high max = some (l, h, m))
    (h1 : relO ρ low vl) (h2 : relO ρ high vh) (h3 : relO ρ max vm) (hc : cap ≤ c) (hlc : len ≤ c) (b : Bool) (w : World) :
    ∃ m', (Instr.sliceBounds b len c vl vh vm).run P w = .ok (l, h, m') w ∧ m ≤ m' ∧ l ≤ h ∧ h ≤ m' ∧ m' ≤ c ∧ (max.isSome → m' = m) ∧ (max = none → m' = c ∧ m = cap) := by
  unfold boundsA at hb
  simp only [Option.bind_eq_some_iff, Option.some.injEq, Prod.mk.injEq] at hb
  obtain ⟨m0, e1, h0, e2, l0, e3, rfl, rfl, rfl⟩ := hb
  have s3 : ∀ code, (match vl with
      | some v => Instr.sliceBound v h0 code
      | none => pure 0 : Sem Nat).run P w = .ok l0 w ∧ l0 ≤ h0 := by
    intro code
    cases low with
    | none =>
      cases vl with
      | some v => exact h1.elim
      | none => simp only [lowA] at e3; cases e3; exact ⟨rfl, Nat.zero_le _⟩
    | some a =>
      cases vl with
      | none => exact h1.elim
      | some v => simp only [lowA] at e3; exact ⟨boundA_sound e3 h1 (Nat.le_refl _) _ w, boundA_le e3⟩
  have fin : ∀ (m' : Nat) (x : Sem Nat) (y : Nat → Sem Nat) (code : BoundsCode), x.run P w = .ok m' w → (y m').run P w = .ok h0 w →
      (do let m ← x; let h ← y m; let l ← (match vl with
            | some v => Instr.sliceBound v h code
            | none => pure 0); pure (l, h, m) : Sem (Nat × Nat × Nat)).run P w = .ok (l0, h0, m') w := by
    intro m' x y code hx hy
    simp only [Sem.run_bind, hx, Result.andThen_ok, hy, (s3 code).1, Sem.run_pure]
  have hl0 := (s3 .sliceB).2
  cases max with
  | none =>
    cases vm with
    | some v => exact h3.elim
    | none =>
      simp only [topA] at e1; cases e1
      cases high with
      | none =>
        cases vh with
        | some v => exact h2.elim
        | none =>
          simp only [highA] at e2; cases e2
          refine ⟨c, ?_, hc, hl0, hlc, Nat.le_refl _, by simp, fun _ => ⟨rfl, rfl⟩⟩
          have := fin c (pure c) (fun _ => pure len) .sliceB rfl rfl
          cases vl <;> exact this
      | some a =>
        cases vh with
        | none => exact h2.elim
        | some v =>
          simp only [highA] at e2
          have := boundA_le e2
          refine ⟨c, ?_, hc, hl0, by omega, Nat.le_refl _, by simp, fun _ => ⟨rfl, rfl⟩⟩
          have := fin c (pure c) (fun m => Instr.sliceBound v m (if b then .sliceAcap else .sliceAlen)) .sliceB rfl (boundA_sound e2 h2 hc _ w)
          cases vl <;> exact this
  | some am =>
    cases vm with
    | none => exact h3.elim
    | some vm =>
      simp only [topA] at e1
      have hm0 := boundA_le e1
      cases high with
      | none => simp only [highA] at e2; cases e2
      | some a =>
        cases vh with
        | none => exact h2.elim
        | some v =>
          simp only [highA] at e2
          have := boundA_le e2
          refine ⟨m0, ?_, Nat.le_refl _, hl0, by omega, by omega, fun _ => rfl, by simp⟩
          have := fin m0 (Instr.sliceBound vm c (if b then .slice3Acap else .slice3Alen)) (fun m => Instr.sliceBound v m .slice3B) .slice3C (boundA_sound e1 h3 hc _ w) (boundA_sound e2 h2 (Nat.le_refl _) _ w)
          cases vl <;> exact this

theorem sliceA_sound (R : Rep E w0 H w ρ) {t : TypeId} {x : AV} {vx : Value} {low high max : Option AV} {vl vh vm : Option Value} {a : AV}
    (h : sliceA P H t x low high max = some a) (hx : rel ρ x vx) (h1 : relO ρ low vl) (h2 : relO ρ high vh) (h3 : relO ρ max vm) :
    ∃ v, (Instr.sliceAt t vx vl vh vm).run P w = .ok v w ∧ rel ρ a v := by
  unfold sliceA at h
  split at h
  · rename_i s hu
    split at h
    · cases h
    · rename_i hm
      simp only [Option.bind_eq_bind, Option.bind_eq_some_iff] at h
      obtain ⟨⟨l, hh, m⟩, hb, h⟩ := h
      cases h
      simp only [rel] at hx; subst hx
      have hmn : max = none := by cases max <;> simp_all
      subst hmn
      have hvm : vm = none := by cases vm with | none => rfl | some v => exact h3.elim
      subst hvm
      obtain ⟨m', r1, _, g2, g3, g4, _⟩ := boundsA_sound (P := P) hb h1 h2 (by trivial : relO ρ none none) (Nat.le_refl _) (Nat.le_refl _) false w
      have hsz : (ByteArray.mk s.toArray).size = s.length := by simp [ByteArray.size]
      refine ⟨.string ((ByteArray.mk s.toArray).extract l hh), ?_, ?_⟩
      · simp only [Instr.sliceAt, Instr.slice, Sem.run_bind, run_underlyingA hu, Result.andThen_ok, Option.isSome_none, Bool.false_eq_true, if_false, hsz, r1]
        rfl
      · simp only [rel]
        have : (ByteArray.mk s.toArray).extract l hh = ⟨((s.drop l).take (hh - l)).toArray⟩ := by
          apply ByteArray.ext
          rw [ByteArray.data_extract]
          simp only
          rw [← Array.toList_inj, Array.toList_extract, List.extract_eq_take_drop]
        rw [this]
  · rename_i e hu
    simp only [Option.bind_eq_bind, Option.bind_eq_some_iff] at h
    obtain ⟨size, hs, ⟨l, hh, m⟩, hb, h⟩ := h
    cases h
    simp only [rel] at hx; subst hx
    obtain ⟨m', r1, _, g2, g3, g4, _⟩ := boundsA_sound (P := P) hb h1 h2 h3 (Nat.le_refl _) (Nat.le_refl _) true w
    refine ⟨.slice none 0 0, ?_, by simp only [rel]⟩
    simp only [Instr.sliceAt, Instr.slice, Sem.run_bind, run_underlyingA hu, Result.andThen_ok, r1, run_sizeA hs, Sem.run_pure]
    have e1 : l = 0 := by omega
    have e2 : hh = 0 := by omega
    have e3 : m' = 0 := by omega
    subst e1 e2 e3
    rfl
  · rename_i e o i len cap ex sz hu
    simp only [Option.bind_eq_bind, Option.bind_eq_some_iff] at h
    obtain ⟨size, hs, ⟨l, hh, m⟩, hb, h⟩ := h
    split at h
    · rename_i hsz
      cases h
      simp only [rel] at hx
      obtain ⟨ad, c, rfl, g1, g2, g3, g4, g5⟩ := hx
      obtain ⟨m', r1, k1, k2, k3, k4, k5, k6⟩ := boundsA_sound (P := P) hb h1 h2 h3 g2 g1 true w
      refine ⟨.slice (some (if m' = l then ad else ad.add (l * size))) (hh - l) (m' - l), ?_, ?_⟩
      · simp only [Instr.sliceAt, Instr.slice, Sem.run_bind, run_underlyingA hu, Result.andThen_ok, r1, run_sizeA hs, Sem.run_pure]
        congr 2
        split <;> rfl
      · simp only [rel]
        refine ⟨_, _, rfl, by omega, by omega, ?_, ?_, ?_⟩
        · intro he
          simp only [Bool.or_eq_true] at he
          cases max with
          | some v => rw [k5 rfl]
          | none =>
            obtain ⟨rfl, rfl⟩ := k6 rfl
            rw [g3 (he.resolve_right (by simp))]
        · by_cases hml : m' = l
          · left; omega
          · right
            obtain ⟨b, d, hb1, rfl⟩ := g4.resolve_left (by omega)
            refine ⟨b, d, hb1, ?_⟩
            rw [if_neg hml, Addr.add_plain, Nat.add_assoc]
        · cases o with
          | old b => trivial
          | new k =>
            obtain ⟨lc, hlc, hr⟩ := g5
            simp only [sizeFits, beq_iff_eq] at hsz; subst hsz
            refine ⟨lc, hlc, ?_⟩
            have : l * sz + (m' - l) * sz ≤ c * sz := by
              rw [← Nat.add_mul]; exact Nat.mul_le_mul_right _ (by omega)
            omega
    · cases h
  · rename_i n e k i hu
    simp only [Option.bind_eq_bind, Option.bind_eq_some_iff] at h
    obtain ⟨size, hs, ⟨l, hh, m⟩, hb, h⟩ := h
    split at h
    · rename_i cs wr pre hk
      split at h
      · rename_i hn
        cases h
        simp only [rel] at hx
        obtain ⟨b, d, hb1, rfl⟩ := hx
        obtain ⟨m', r1, k1, k2, k3, k4, k5, k6⟩ := boundsA_sound (P := P) hb h1 h2 h3 (Nat.le_refl _) (Nat.le_refl _) false w
        have hmm : m' = m := by
          cases max with
          | some v => exact k5 rfl
          | none => obtain ⟨rfl, rfl⟩ := k6 rfl; rfl
        subst hmm
        refine ⟨.slice (some (if m' = l then ⟨b, d + i, none⟩ else (⟨b, d + i, none⟩ : Addr).add (l * size))) (hh - l) (m' - l), ?_, ?_⟩
        · simp only [Instr.sliceAt, Instr.sureAddr, Sem.run_bind, run_underlyingA hu, Result.andThen_ok, r1, run_sizeA hs, Sem.run_pure]
        · simp only [rel]
          refine ⟨_, _, rfl, by omega, Nat.le_refl _, fun _ => rfl, ?_, ?_⟩
          · by_cases hml : m' = l
            · left; omega
            · right
              refine ⟨b, d, hb1, ?_⟩
              rw [if_neg hml, Addr.add_plain, Nat.add_assoc]
          · obtain ⟨lc, hlc, _, arr, el, lo, hi, q1, q2, q3, _⟩ := R.objs k _ hk
            refine ⟨lc, hlc, ?_⟩
            have : l * size + (m' - l) * size ≤ n * size := by
              rw [← Nat.add_mul]; exact Nat.mul_le_mul_right _ (by omega)
            omega
      · cases h
    · cases h
  · cases h
end
end Go.Am
