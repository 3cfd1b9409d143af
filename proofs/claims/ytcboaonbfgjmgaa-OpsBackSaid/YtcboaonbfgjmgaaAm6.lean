/-
  Operations of the abstract machine and of the model, one by one: comparisons and arithmetic.
-/
import Derived.Test.YtcboaonbfgjmgaaAm5
import Derived.Laws.StructEq
import Derived.Lib.SlicesS
namespace Go.Am
section
variable {E : Env} {w0 : World} {H : AHeap} {w : World} {ρ : LMap} {P : Program}

theorem sameAddr_block (b : Nat) (i j : Nat) (w : World) : (sameAddr ⟨b, i, none⟩ ⟨b, j, none⟩).run P w = .ok (i == j) w := by
  simp only [sameAddr, beq_self_eq_true, if_true]
  show Result.ok _ _ = _
  congr 1
  rw [Bool.eq_iff_iff]; simp

theorem forIn_fields (d : Nat) (t : TypeId) (xs ys : List AV) (vx vy : Array Value) (hx : relL ρ xs vx.toList) (hy : relL ρ ys vy.toList)
    (ih : ∀ t a b va vb r, eqA P d t a b = some r → rel ρ a va → rel ρ b vb → ∀ w, (Op.equalIn d t va vb).run P w = .ok r w) :
    ∀ (fs : List Field) (r : Bool), eqFieldsA P (fun t a b => eqA P d t a b) xs ys fs = some r → ∀ w : World,
      (do for f in fs do
            if f.name ≠ "_" then
              if !(← Op.equalIn d f.type (← part f.type vx f.offset) (← part f.type vy f.offset)) then return false
          pure true : Sem Bool).run P w = .ok r w
  | [], r, h, w => by simp only [eqFieldsA] at h; cases h; rfl
  | f :: fs, r, h, w => by
    have IH := fun h => forIn_fields d t xs ys vx vy hx hy ih fs r h w
    simp only [eqFieldsA] at h
    by_cases hn : f.name ≠ "_"
    · rw [if_pos hn] at h
      split at h
      · rename_i a b ha hb
        obtain ⟨va, h1, h2⟩ := partA_sound hx ha w
        obtain ⟨vb, h3, h4⟩ := partA_sound hy hb w
        split at h
        · rename_i he
          have := ih _ _ _ _ _ _ he h2 h4 w
          simpa [hn, h1, h3, this] using IH h
        · rename_i r' he hr'
          have hr : r = false := by
            cases r with
            | false => rfl
            | true => exact absurd h hr'
          subst hr
          have := ih _ _ _ _ _ _ h h2 h4 w
          simp [hn, h1, h3, this]
      · cases h
    · rw [if_neg hn] at h
      simp only [ne_eq, Decidable.not_not] at hn
      simpa [hn] using IH h

theorem bytes_beqA (x y : List UInt8) : ((ByteArray.mk x.toArray) == (ByteArray.mk y.toArray)) = (x == y) := by
  rw [beq_toListBytes, ByteArray.toList_eq, ByteArray.toList_eq]

theorem eqA_sound : ∀ (d : Nat) (t : TypeId) (a b : AV) (va vb : Value) (r : Bool), eqA P d t a b = some r → rel ρ a va → rel ρ b vb → ∀ w, (Op.equalIn d t va vb).run P w = .ok r w
  | 0, _, _, _, _, _, _, h, _, _, _ => by simp [eqA] at h
  | d + 1, t, a, b, va, vb, r, h, ha, hb, w => by
    unfold eqA at h
    split at h
    case h_1 hu => simp only [rel] at ha hb; subst ha hb; cases h; (rw [Op.equalIn]; simp only [Sem.run_bind, run_underlyingA hu, Result.andThen_ok]; rfl)
    case h_2 hu =>
      simp only [rel] at ha hb; subst ha hb
      split at h
      · rename_i e; cases h; (rw [Op.equalIn]; simp only [Sem.run_bind, run_underlyingA hu, Result.andThen_ok]; simp [e])
      · cases h
    case h_3 hu =>
      simp only [rel] at ha hb; subst ha hb; cases h
      rename_i x y
      rw [Op.equalIn]; simp only [Sem.run_bind, run_underlyingA hu, Result.andThen_ok, Sem.run_pure]
      congr 1
      exact bytes_beqA _ _
    case h_4 hu => simp only [rel] at ha hb; subst ha hb; cases h; (rw [Op.equalIn]; simp only [Sem.run_bind, run_underlyingA hu, Result.andThen_ok]; rfl)
    case h_5 hu => simp only [rel] at ha hb; obtain ⟨_, _, _, rfl⟩ := hb; subst ha; cases h; (rw [Op.equalIn]; simp only [Sem.run_bind, run_underlyingA hu, Result.andThen_ok]; rfl)
    case h_6 hu => simp only [rel] at ha hb; obtain ⟨_, _, _, rfl⟩ := ha; subst hb; cases h; (rw [Op.equalIn]; simp only [Sem.run_bind, run_underlyingA hu, Result.andThen_ok]; rfl)
    case h_7 hu =>
      simp only [rel] at ha hb
      obtain ⟨b1, d1, g1, rfl⟩ := ha
      obtain ⟨b2, d2, g2, rfl⟩ := hb
      split at h
      · rename_i hc
        obtain ⟨rfl, h2, h3⟩ := hc
        cases h
        rw [g1] at g2; cases g2
        obtain ⟨n, hn⟩ := Option.isSome_iff_exists.1 h3
        have hn0 : n ≠ 0 := by rintro rfl; exact h2 hn
        rw [Op.equalIn]; simp only [Sem.run_bind, run_underlyingA hu, run_sizeA hn, Result.andThen_ok, hn0, ne_eq, not_false_eq_true, if_true, sameAddr_block]
        congr 1
        rw [Bool.eq_iff_iff]; simp
      · cases h
    case h_8 hu => simp only [rel] at ha hb; subst ha hb; cases h; (rw [Op.equalIn]; simp only [Sem.run_bind, run_underlyingA hu, Result.andThen_ok]; rfl)
    case h_9 hu => simp only [rel] at ha hb; obtain ⟨_, rfl, _⟩ := hb; subst ha; cases h; (rw [Op.equalIn]; simp only [Sem.run_bind, run_underlyingA hu, Result.andThen_ok]; rfl)
    case h_10 hu => simp only [rel] at ha hb; obtain ⟨_, rfl, _⟩ := ha; subst hb; cases h; (rw [Op.equalIn]; simp only [Sem.run_bind, run_underlyingA hu, Result.andThen_ok]; rfl)
    case h_11 hu =>
      simp only [rel] at ha hb
      obtain ⟨x1, rfl, r1⟩ := ha
      obtain ⟨x2, rfl, r2⟩ := hb
      split at h
      · rename_i e; cases h; (rw [Op.equalIn]; simp only [Sem.run_bind, run_underlyingA hu, Result.andThen_ok]; simp [e])
      · rename_i e
        split at h
        · rename_i i hi
          split at h
          · rename_i hc
            have := eqA_sound d _ _ _ _ _ _ h r1 r2 w
            (rw [Op.equalIn]; simp only [Sem.run_bind, run_underlyingA hu, Result.andThen_ok]; simp [e, run_typeInfoA hi, hc, this])
          · cases h
        · cases h
    case h_12 hu => simp only [rel] at ha hb; subst ha hb; cases h; (rw [Op.equalIn]; simp only [Sem.run_bind, run_underlyingA hu, Result.andThen_ok]; rfl)
    case h_13 hu => simp only [rel] at ha hb; obtain ⟨_, _, rfl, _⟩ := hb; subst ha; cases h; (rw [Op.equalIn]; simp only [Sem.run_bind, run_underlyingA hu, Result.andThen_ok]; rfl)
    case h_14 hu => simp only [rel] at ha hb; obtain ⟨_, _, rfl, _⟩ := ha; subst hb; cases h; (rw [Op.equalIn]; simp only [Sem.run_bind, run_underlyingA hu, Result.andThen_ok]; rfl)
    case h_15 hu => simp only [rel] at ha hb; subst ha hb; cases h; (rw [Op.equalIn]; simp only [Sem.run_bind, run_underlyingA hu, Result.andThen_ok]; rfl)
    case h_16 hu => simp only [rel] at ha hb; obtain ⟨_, _, rfl⟩ := hb; subst ha; cases h; (rw [Op.equalIn]; simp only [Sem.run_bind, run_underlyingA hu, Result.andThen_ok]; rfl)
    case h_17 hu => simp only [rel] at ha hb; obtain ⟨_, _, rfl⟩ := ha; subst hb; cases h; (rw [Op.equalIn]; simp only [Sem.run_bind, run_underlyingA hu, Result.andThen_ok]; rfl)
    case h_18 hu => simp only [rel] at ha hb; subst ha hb; cases h; (rw [Op.equalIn]; simp only [Sem.run_bind, run_underlyingA hu, Result.andThen_ok]; rfl)
    case h_19 hu => simp only [rel] at ha hb; obtain ⟨_, _, rfl, _⟩ := hb; subst ha; cases h; (rw [Op.equalIn]; simp only [Sem.run_bind, run_underlyingA hu, Result.andThen_ok]; rfl)
    case h_20 hu => simp only [rel] at ha hb; obtain ⟨_, _, rfl, _⟩ := ha; subst hb; cases h; (rw [Op.equalIn]; simp only [Sem.run_bind, run_underlyingA hu, Result.andThen_ok]; rfl)
    case h_21 hu =>
      simp only [rel] at ha hb
      obtain ⟨x1, rfl, r1⟩ := ha
      obtain ⟨x2, rfl, r2⟩ := hb
      split at h
      · cases h
      · rename_i hst
        have := forIn_fields d t _ _ x1 x2 r1 r2 (fun t a b va vb r h1 h2 h3 w => eqA_sound d t a b va vb r h1 h2 h3 w) _ r h w
        rw [Op.equalIn]; simp only [Sem.run_bind, run_underlyingA hu, Result.andThen_ok, run_program, Bool.not_eq_true] at hst ⊢
        simp only [hst, Bool.false_eq_true, if_false, Sem.run_bind]
        rw [← Array.forIn_toList]
        simp only [Sem.run_bind] at this
        exact this
    case h_22 => cases h
end
end Go.Am
