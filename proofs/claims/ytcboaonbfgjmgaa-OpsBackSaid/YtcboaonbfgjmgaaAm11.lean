/-
  Operations of the abstract machine and of the model, one by one: fields, indices, maps, assertions.
-/
import Derived.Test.YtcboaonbfgjmgaaAm10
namespace Go.Am
section
variable {E : Env} {w0 : World} {H : AHeap} {w : World} {ρ : LMap} {P : Program}

theorem fieldOf_some {s : TypeId} {f : Nat} {x : Field} (h : fieldOf P s f = some x) : ∃ fields, P.underlying s = some (.struct fields) ∧ fields[f]? = some x := by
  unfold fieldOf at h
  split at h
  · rename_i fields hu; exact ⟨fields, hu, h⟩
  · cases h

theorem run_fieldPlace {b i n : Nat} {f : Field} (hs : sizeA P f.type = some n) (hn : n ≠ 0) (w : World) :
    (fieldPlace ⟨b, i, none⟩ f).run P w = .ok ⟨b, i + f.offset, none⟩ w := by
  simp only [fieldPlace, Sem.run_bind, run_sizeA hs, Result.andThen_ok, hn, if_false, Sem.run_pure, Addr.add_plain]

theorem fieldAtA_sound {s : TypeId} {x : AV} {vx : Value} {f : Nat} {a : AV} (h : fieldAtA P s x f = some a) (hx : rel ρ x vx) (w : World) :
    ∃ v, (Instr.fieldAt s vx f).run P w = .ok v w ∧ rel ρ a v := by
  unfold fieldAtA at h
  simp only [Option.bind_eq_bind, Option.bind_eq_some_iff] at h
  obtain ⟨fd, hfd, h⟩ := h
  obtain ⟨fields, hu, hf⟩ := fieldOf_some hfd
  split at h
  · rename_i o i
    split at h
    · rename_i hc
      cases h
      obtain ⟨n, hn⟩ := Option.isSome_iff_exists.1 hc.1
      have hn0 : n ≠ 0 := by rintro rfl; exact hc.2 hn
      simp only [rel] at hx
      obtain ⟨b, d, hb, rfl⟩ := hx
      refine ⟨.pointer (some ⟨b, d + i + fd.offset, none⟩), ?_, by simp only [rel]; exact ⟨b, d, hb, by rw [Nat.add_assoc]⟩⟩
      simp only [Instr.fieldAt, Sem.run_bind, run_underlyingA hu, Result.andThen_ok, hf, Instr.sureAddr, Sem.run_pure, run_fieldPlace hn hn0]
    · cases h
  · cases h

theorem fieldA_sound {s : TypeId} {x : AV} {vx : Value} {f : Nat} {a : AV} (h : fieldA P s x f = some a) (hx : rel ρ x vx) (w : World) :
    ∃ v, (Instr.field s vx f).run P w = .ok v w ∧ rel ρ a v := by
  unfold fieldA at h
  simp only [Option.bind_eq_bind, Option.bind_eq_some_iff] at h
  obtain ⟨fd, hfd, h⟩ := h
  obtain ⟨fields, hu, hf⟩ := fieldOf_some hfd
  split at h
  · rename_i cs
    simp only [rel] at hx
    obtain ⟨x, rfl, hr⟩ := hx
    obtain ⟨v, h1, h2⟩ := partA_sound hr h w
    exact ⟨v, by simp only [Instr.field, Sem.run_bind, run_underlyingA hu, Result.andThen_ok, hf, asAgg, Sem.run_pure, h1], h2⟩
  · cases h

theorem indexAtA_sound {t : TypeId} {x ix : AV} {vx vi : Value} {a : AV} (h : indexAtA P t x ix = some a) (hx : rel ρ x vx) (hi : rel ρ ix vi) (w : World) :
    ∃ v, (Instr.indexAt t vx vi).run P w = .ok v w ∧ rel ρ a v := by
  unfold indexAtA at h
  simp only [Option.bind_eq_bind, Option.bind_eq_some_iff] at h
  obtain ⟨n, hn, h⟩ := h
  obtain ⟨k, rfl⟩ := rel_int hn hi
  split at h
  · rename_i e o i len cap ex sz hu
    simp only [Option.bind_eq_some_iff] at h
    obtain ⟨size, hs, h⟩ := h
    split at h
    · rename_i hc
      cases h
      simp only [rel] at hx
      obtain ⟨ad, c, rfl, g1, g2, g3, g4, g5⟩ := hx
      obtain ⟨b, d, hb, rfl⟩ := g4.resolve_left (by omega)
      refine ⟨.pointer (some ⟨b, d + i + n.toNat * size, none⟩), ?_, by simp only [rel]; exact ⟨b, d, hb, by rw [Nat.add_assoc]⟩⟩
      simp only [Instr.indexAt, asIntOf, Sem.run_bind, Sem.run_pure, Result.andThen_ok, run_underlyingA hu]
      rw [if_pos hc]
      simp only [Sem.run_bind, run_sizeA hs, Result.andThen_ok, Sem.run_pure, Addr.add_plain]
    · cases h
  · rename_i len e o i hu
    simp only [Option.bind_eq_some_iff] at h
    obtain ⟨size, hs, h⟩ := h
    split at h
    · rename_i hc
      cases h
      simp only [rel] at hx
      obtain ⟨b, d, hb, rfl⟩ := hx
      refine ⟨.pointer (some ⟨b, d + i + n.toNat * size, none⟩), ?_, by simp only [rel]; exact ⟨b, d, hb, by rw [Nat.add_assoc]⟩⟩
      simp only [Instr.indexAt, asIntOf, Sem.run_bind, Sem.run_pure, Result.andThen_ok, run_underlyingA hu, Instr.sureAddr]
      rw [if_pos hc]
      simp only [Sem.run_bind, run_sizeA hs, Result.andThen_ok, Sem.run_pure, Addr.add_plain]
    · cases h
  · cases h

theorem indexA_sound {t : TypeId} {x ix : AV} {vx vi : Value} {a : AV} (h : indexA P t x ix = some a) (hx : rel ρ x vx) (hi : rel ρ ix vi) (w : World) :
    ∃ v, (Instr.index t vx vi).run P w = .ok v w ∧ rel ρ a v := by
  unfold indexA at h
  simp only [Option.bind_eq_bind, Option.bind_eq_some_iff] at h
  obtain ⟨n, hn, h⟩ := h
  obtain ⟨k, rfl⟩ := rel_int hn hi
  split at h
  · rename_i len e cs hu
    simp only [Option.bind_eq_some_iff] at h
    obtain ⟨size, hs, h⟩ := h
    split at h
    · rename_i hc
      simp only [rel] at hx
      obtain ⟨x, rfl, hr⟩ := hx
      obtain ⟨v, h1, h2⟩ := partA_sound hr h w
      refine ⟨v, ?_, h2⟩
      simp only [Instr.index, asIntOf, Sem.run_bind, Sem.run_pure, Result.andThen_ok, run_underlyingA hu]
      rw [if_pos hc]
      simp only [Sem.run_bind, run_sizeA hs, Result.andThen_ok, h1]
    · cases h
  · rename_i s hu
    split at h
    · rename_i hc
      simp only [Option.map_eq_some_iff] at h
      obtain ⟨b, hb, rfl⟩ := h
      simp only [rel] at hx; subst hx
      refine ⟨.int .u8 b.toNat, ?_, by simp only [rel]⟩
      simp only [Instr.index, asIntOf, Sem.run_bind, Sem.run_pure, Result.andThen_ok, run_underlyingA hu, hc, if_true]
      have : (ByteArray.mk s.toArray)[n.toNat]? = some b := by
        rw [← hb]
        show (if h : n.toNat < (ByteArray.mk s.toArray).size then some _ else none) = _
        have hsz : (ByteArray.mk s.toArray).size = s.length := by simp [ByteArray.size]
        by_cases hl : n.toNat < s.length
        · rw [dif_pos (by rw [hsz]; exact hl), List.getElem?_eq_getElem hl]; rfl
        · rw [dif_neg (by rw [hsz]; exact hl), List.getElem?_eq_none (by omega)]
      rw [this]
      rfl
    · cases h
  · cases h

theorem assertA_sound {x : AV} {vx : Value} {xt asserted : TypeId} {ok : Bool} {a : AV} (h : assertA P x asserted ok = some a) (hx : rel ρ x vx) (w : World) :
    ∃ v, (Instr.typeAssert vx xt asserted ok).run P w = .ok v w ∧ rel ρ a v := by
  unfold assertA at h
  split at h
  · cases h
  · rename_i d hd hu
    have fails : ∀ {dyn : Option TypeId} {static : Option TypeId} {miss : String}, (if ok then (zeroOf P asserted).map fun z => AV.tup [z, .bool false] else none) = some a →
        ∃ v, (if ok then (do pure (.tuple #[← zeroValue asserted, .bool false])) else runtimePanic (.typeAssertion static dyn asserted miss) : Sem Value).run P w = .ok v w ∧ rel ρ a v := by
      intro dyn static miss hfail
      split at hfail
      · rename_i hok
        simp only [Option.map_eq_some_iff] at hfail
        obtain ⟨z, hz, rfl⟩ := hfail
        obtain ⟨v, h1, h2⟩ := run_zeroA (ρ := ρ) hz w
        refine ⟨.tuple #[v, .bool false], ?_, ?_⟩
        · rw [if_pos hok]; simp only [Sem.run_bind, h1, Result.andThen_ok, Sem.run_pure]
        · simp only [rel]
          exact ⟨_, rfl, relL_cons.2 ⟨h2, relL_cons.2 ⟨by simp only [rel], relL_nil.2 rfl⟩⟩⟩
      · cases hfail
    simp only at h
    split at h
    · simp only [rel] at hx; subst hx
      obtain ⟨v, h1, h2⟩ := fails (dyn := none) (static := some xt) (miss := "") h
      refine ⟨v, Eq.trans ?_ h1, h2⟩
      unfold Instr.typeAssert
      simp only [Sem.run_bind, run_underlyingA hu, Result.andThen_ok]
    · rename_i t u
      simp only [rel] at hx
      obtain ⟨vu, rfl, hr⟩ := hx
      have hrun : (Instr.typeAssert (.iface t vu) xt asserted ok).run P w = (if t = asserted then pure (if ok then .tuple #[vu, .bool true] else vu)
          else (if ok then (do pure (.tuple #[← zeroValue asserted, .bool false])) else runtimePanic (.typeAssertion (some xt) (some t) asserted "")) : Sem Value).run P w := by
        unfold Instr.typeAssert
        simp only [Sem.run_bind, run_underlyingA hu, Result.andThen_ok]
      split at h
      · rename_i he
        cases h
        subst he
        refine ⟨if ok then .tuple #[vu, .bool true] else vu, ?_, ?_⟩
        · rw [hrun, if_pos rfl]; rfl
        · split
          · simp only [rel]
            exact ⟨_, rfl, relL_cons.2 ⟨hr, relL_cons.2 ⟨by simp only [rel], relL_nil.2 rfl⟩⟩⟩
          · exact hr
      · rename_i he
        obtain ⟨v, h1, h2⟩ := fails (dyn := some t) (static := some xt) (miss := "") h
        exact ⟨v, by rw [hrun, if_neg he]; exact h1, h2⟩
    · cases h
  · cases h

theorem keyFits_cases {kt : TypeId} {k : AV} {vk : Value} (h : keyFits P kt k = true) (hk : rel ρ k vk) :
    (∃ d, P.underlying kt = some d ∧ ((∃ i j n, d = .int i ∧ k = .int j n ∧ vk = .int j n) ∨ (∃ s, d = .string ∧ k = .str s ∧ vk = .string ⟨s.toArray⟩) ∨ (∃ b, d = .bool ∧ k = .bool b ∧ vk = .bool b))) := by
  unfold keyFits at h
  split at h
  · rename_i i j n hu; simp only [rel] at hk; exact ⟨_, hu, .inl ⟨i, j, n, rfl, rfl, hk⟩⟩
  · rename_i s hu; simp only [rel] at hk; exact ⟨_, hu, .inr (.inl ⟨s, rfl, rfl, hk⟩)⟩
  · rename_i b hu; simp only [rel] at hk; exact ⟨_, hu, .inr (.inr ⟨b, rfl, rfl, hk⟩)⟩
  · cases h

theorem run_checkKey {kt : TypeId} {k : AV} {vk : Value} (h : keyFits P kt k = true) (hk : rel ρ k vk) (e : Bool) (n : Nat) (w : World) :
    (Instr.checkKey e (n + 1) kt vk).run P w = .ok () w := by
  obtain ⟨d, hu, hc⟩ := keyFits_cases h hk
  rw [Instr.checkKey]
  simp only [Sem.run_bind, run_underlyingA hu, Result.andThen_ok]
  rcases hc with ⟨i, j, n, rfl, rfl, rfl⟩ | ⟨s, rfl, rfl, rfl⟩ | ⟨b, rfl, rfl, rfl⟩ <;> rfl

theorem relE_get {es : List (AV × AV × Nat)} : ∀ {l : List MapEntry} (_ : relE ρ es l) (i : Nat) {k v : AV} {n : Nat}, es[i]? = some (k, v, n) →
    ∃ e, l[i]? = some e ∧ rel ρ k e.key ∧ rel ρ v e.val ∧ e.born = n := by
  induction es with
  | nil => intro l _ i k v n h; simp at h
  | cons x es ih =>
    obtain ⟨k0, v0, n0⟩ := x
    intro l hr i k v n h
    simp only [relE] at hr
    obtain ⟨e, r, rfl, h1, h2, h3, h4⟩ := hr
    cases i with
    | zero => simp at h; obtain ⟨rfl, rfl, rfl⟩ := h; exact ⟨e, rfl, h1, h2, h3⟩
    | succ i => simp at h; obtain ⟨e', g1, g2⟩ := ih h4 i h; exact ⟨e', by simpa using g1, g2⟩
theorem relE_length {es : List (AV × AV × Nat)} : ∀ {l : List MapEntry} (_ : relE ρ es l), es.length = l.length := by
  induction es with
  | nil => intro l h; simp only [relE] at h; subst h; rfl
  | cons x es ih =>
    obtain ⟨k0, v0, n0⟩ := x
    intro l h
    simp only [relE] at h
    obtain ⟨e, r, rfl, _, _, _, h4⟩ := h
    simp [ih h4]
theorem relE_append {es fs : List (AV × AV × Nat)} : ∀ {l m : List MapEntry} (_ : relE ρ es l) (_ : relE ρ fs m), relE ρ (es ++ fs) (l ++ m) := by
  induction es with
  | nil => intro l m h h'; simp only [relE] at h; subst h; exact h'
  | cons x es ih =>
    obtain ⟨k0, v0, n0⟩ := x
    intro l m h h'
    simp only [relE] at h
    obtain ⟨e, r, rfl, h1, h2, h3, h4⟩ := h
    exact ⟨e, r ++ m, rfl, h1, h2, h3, ih h4 h'⟩
theorem relE_set {es : List (AV × AV × Nat)} : ∀ {l : List MapEntry} (_ : relE ρ es l) (i : Nat) {k v : AV} {n : Nat} {e : MapEntry}, rel ρ k e.key → rel ρ v e.val → e.born = n →
    relE ρ (es.set i (k, v, n)) (l.set i e) := by
  induction es with
  | nil => intro l h i k v n e _ _ _; simp only [relE] at h; subst h; simp [relE]
  | cons x es ih =>
    obtain ⟨k0, v0, n0⟩ := x
    intro l h i k v n e h1 h2 h3
    simp only [relE] at h
    obtain ⟨e0, r, rfl, g1, g2, g3, g4⟩ := h
    cases i with
    | zero => exact ⟨e, r, rfl, h1, h2, h3, g4⟩
    | succ i => exact ⟨e0, r.set i e, rfl, g1, g2, g3, ih g4 i h1 h2 h3⟩

theorem keyEq_sound {d : TypeDesc} {k k' : AV} {vk vk' : Value} {r : Bool} (hd : (∃ i j n, d = .int i ∧ k = .int j n ∧ vk = .int j n) ∨ (∃ s, d = .string ∧ k = .str s ∧ vk = .string ⟨s.toArray⟩) ∨ (∃ b, d = .bool ∧ k = .bool b ∧ vk = .bool b))
    (h : keyEq k k' = some r) (hk' : rel ρ k' vk') : Instr.sameNow d vk vk' = some r := by
  rcases hd with ⟨i, j, n, rfl, rfl, rfl⟩ | ⟨s, rfl, rfl, rfl⟩ | ⟨b, rfl, rfl, rfl⟩
  · cases k' <;> simp only [keyEq] at h <;> try (cases h; done)
    simp only [rel] at hk'; subst hk'
    split at h
    · rename_i e; subst e; cases h; simp [Instr.sameNow]
    · cases h
  · cases k' <;> simp only [keyEq] at h <;> try (cases h; done)
    simp only [rel] at hk'; subst hk'
    cases h
    simp only [Instr.sameNow, bytes_beqA]
  · cases k' <;> simp only [keyEq] at h <;> try (cases h; done)
    simp only [rel] at hk'; subst hk'
    cases h
    simp only [Instr.sameNow]

theorem findA_sound {d : TypeDesc} {k : AV} {vk : Value} (hd : (∃ i j n, d = .int i ∧ k = .int j n ∧ vk = .int j n) ∨ (∃ s, d = .string ∧ k = .str s ∧ vk = .string ⟨s.toArray⟩) ∨ (∃ b, d = .bool ∧ k = .bool b ∧ vk = .bool b)) :
    ∀ {es : List (AV × AV × Nat)} {l : List MapEntry} {i : Nat} {r : Option (Nat × AV × Nat)}, findA k es i = some r → relE ρ es l →
    (r = none ∧ Instr.findNow d vk l i = some none) ∨ ∃ j v n vv k', r = some (i + j, v, n) ∧ Instr.findNow d vk l i = some (some (i + j, vv)) ∧ es[j]? = some (k', v, n) ∧ rel ρ v vv ∧
      ∃ e, l[j]? = some e ∧ e.val = vv ∧ Instr.sameNow d vk e.key = some true := by
  intro es
  induction es with
  | nil => intro l i r h hr; simp only [relE] at hr; subst hr; simp only [findA] at h; cases h; exact .inl ⟨rfl, rfl⟩
  | cons x es ih =>
    obtain ⟨k0, v0, n0⟩ := x
    intro l i r h hr
    simp only [relE] at hr
    obtain ⟨e, rs, rfl, g1, g2, g3, g4⟩ := hr
    simp only [findA] at h
    split at h
    · rename_i hk
      cases h
      have := keyEq_sound hd hk g1
      refine .inr ⟨0, v0, n0, e.val, k0, rfl, ?_, rfl, g2, e, rfl, rfl, this⟩
      simp only [Instr.findNow, this]; rfl
    · rename_i hk
      have hs := keyEq_sound hd hk g1
      rcases ih h g4 with ⟨rfl, hh⟩ | ⟨j, v, n, vv, k', rfl, hh, hg, hv, e', he'⟩
      · exact .inl ⟨rfl, by simp only [Instr.findNow, hs]; exact hh⟩
      · refine .inr ⟨j + 1, v, n, vv, k', by rw [show i + (j + 1) = i + 1 + j by omega], ?_, by simpa using hg, hv, e', by simpa using he'.1, he'.2⟩
        simp only [Instr.findNow, hs]
        rw [show i + (j + 1) = i + 1 + j by omega]; exact hh
    · cases h
end
end Go.Am
