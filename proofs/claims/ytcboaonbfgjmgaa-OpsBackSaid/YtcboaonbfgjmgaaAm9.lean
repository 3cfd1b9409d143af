/-
  Operations of the abstract machine and of the model, one by one: conversions, slices, fields, append, copy.
-/
import Derived.Test.YtcboaonbfgjmgaaAm8
namespace Go.Am
section
variable {E : Env} {w0 : World} {H : AHeap} {w : World} {ρ : LMap} {P : Program}

theorem rel_int {a : AV} {v : Value} {n : Int} (h : intOfA a = some n) (r : rel ρ a v) : ∃ k, v = .int k n := by
  cases a <;> simp only [intOfA] at h <;> cases h
  simp only [rel] at r; exact ⟨_, r⟩

/-- A block's marked cells lie behind its row. -/
theorem Rep.mark (R : Rep E w0 H w ρ) {b : Nat} {arr : Array Value} {el : TypeId} {lo hi lo' hi' : Nat} (hb : w.heap[b]? = some (.cells arr el (lo, hi))) (h0 : w0.heap.size ≤ b)
    (hz : lo = hi ∨ arr.size ≤ lo → lo' = hi' ∨ arr.size ≤ lo') : Rep E w0 H (putBlock w b (.cells arr el (lo', hi'))) ρ := by
  have hblk := (Array.getElem?_eq_some_iff.1 hb).1
  refine ⟨by rw [size_putBlock]; exact R.size, ?_, R.env, R.side, ?_, R.apart, R.pres, R.kin⟩
  · intro b' hb'; rw [heap_putBlock _ _ _ hblk, if_neg (by omega)]; exact R.old b' hb'
  · intro k o e
    obtain ⟨l, h1, h2, h3⟩ := R.objs k o e
    refine ⟨l, h1, h2, ?_⟩
    by_cases hl : l.blk = b
    · cases o with
      | map es c => obtain ⟨mes, g, _⟩ := h3; rw [hl, hb] at g; cases g
      | cells cs wr pre =>
        obtain ⟨arr1, el1, lo1, hi1, g0, g1, g2, g3, g4⟩ := h3
        rw [hl, hb] at g0; cases g0
        exact ⟨arr, el, lo', hi', by rw [hl, heap_putBlock _ _ _ hblk, if_pos rfl], g1, g2, g3, fun hw => by rw [← g1]; exact hz (by rw [g1]; exact g4 hw)⟩
    · exact objOk_heap h3 (by rw [heap_putBlock _ _ _ hblk, if_neg (fun e => hl e.symm)])

theorem freeze_block {b n : Nat} {arr : Array Value} {el : TypeId} {lo hi : Nat} (h : w.heap[b]? = some (.cells arr el (lo, hi))) :
    w.freeze ⟨b, n, none⟩ 1 = putBlock w b (.cells arr el (if lo == hi then (n, n + 1) else (min lo n, max hi (n + 1)))) := by
  have hb := (Array.getElem?_eq_some_iff.1 h).1
  unfold World.freeze
  rw [if_neg (by decide)]
  cases w with
  | mk heap tape drawn os output =>
    simp only [putBlock, World.mk.injEq, and_true]
    apply Array.ext_getElem?
    intro j
    simp only [Array.getElem?_modify, Array.getElem?_setIfInBounds]
    split
    · rename_i e; subst e
      simp only at hb h
      rw [h]; rfl
    · rfl

theorem run_markStringish {b i : Nat} {arr : Array Value} {el : TypeId} {lo hi : Nat} (h : w.heap[b]? = some (.cells arr el (lo, hi))) :
    (markStringish ⟨b, i, none⟩).run P w = .ok () (putBlock w b (.cells arr el (if lo == hi then (arr.size, arr.size + 1) else (min lo arr.size, max hi (arr.size + 1))))) := by
  simp only [markStringish, Sem.run_bind, run_shape, Result.andThen_ok, World.shape?, h, run_freeze, freeze_block h]

theorem forIn_bytes (f : Value → ByteArray → Sem (ForInStep ByteArray)) (hf : ∀ n s, f (.int .u8 n) s = pure (ForInStep.yield (s.push (UInt8.ofNat n.toNat)))) : ∀ (cs : List AV) (vs : List Value) (bs : List UInt8) (acc : ByteArray), cs.mapM byteOf = some bs → relL ρ cs vs → ∀ w : World,
    (forIn vs acc f).run P w = .ok ⟨acc.data ++ bs.toArray⟩ w
  | [], vs, bs, acc, h, hr, w => by
    rw [relL_nil] at hr; subst hr
    simp at h; subst h
    simp
  | c :: cs, [], _, _, _, hr, _ => (relL_not_cons hr).elim
  | c :: cs, v :: vs, bs, acc, h, hr, w => by
    rw [relL_cons] at hr
    simp only [List.mapM_cons, Option.bind_eq_bind, Option.bind_eq_some_iff] at h
    obtain ⟨b, hb, bs', hbs, h⟩ := h
    cases h
    have hv : ∃ n, v = .int .u8 n ∧ b = UInt8.ofNat n.toNat := by
      unfold byteOf at hb
      split at hb
      · cases hb
        have := hr.1
        simp only [rel] at this
        exact ⟨_, this, rfl⟩
      · cases hb
    obtain ⟨n, rfl, rfl⟩ := hv
    have ih := forIn_bytes f hf cs vs bs' (acc.push (UInt8.ofNat n.toNat)) hbs hr.2 w
    rw [List.forIn_cons, hf]
    simp only [pure_bind]
    rw [ih]
    congr 1
    simp [ByteArray.push]

theorem relL_bytes (s : List UInt8) : relL ρ (s.map fun b => .int .u8 b.toNat) (s.map fun b => Value.int .u8 b.toNat) := by
  induction s with
  | nil => exact relL_nil.2 rfl
  | cons b s ih => exact relL_cons.2 ⟨by simp only [rel], ih⟩

theorem Rep.loadsAt (R : Rep E w0 H w ρ) {o : Id} {i n : Nat} {as : List AV} {ad : Addr} (h : loadRange E H o i n = some as)
    (hd : n = 0 ∨ ∃ b d, baseOf ρ o = some (b, d) ∧ ad = ⟨b, d + i, none⟩) : ∃ vs, (∀ w', w'.heap = w.heap → (loadCells ad n).run P w' = .ok ⟨vs⟩ w') ∧ relL ρ as vs := by
  rcases hd with rfl | ⟨b, d, hb, rfl⟩
  · have : as = [] := by
      unfold loadRange at h
      split at h
      · split at h
        · cases h; simp
        · cases h
      · cases h
    subst this
    exact ⟨[], fun _ _ => rfl, relL_nil.2 rfl⟩
  · obtain ⟨b', d', vs, h1, h2, h3, _⟩ := R.loads (P := P) h
    rw [hb] at h1; cases h1
    exact ⟨vs, h2, h3⟩

theorem Rep.rangeAt (R : Rep E w0 H w ρ) {o : Id} {i n : Nat} {as : List AV} {ad : Addr} (h : rangeOr E H o i n = some as)
    (hd : n = 0 ∨ ∃ b d, baseOf ρ o = some (b, d) ∧ ad = ⟨b, d + i, none⟩) : ∃ vs, (∀ w', w'.heap = w.heap → (loadCells ad n).run P w' = .ok ⟨vs⟩ w') ∧ relL ρ as vs := by
  unfold rangeOr at h
  split at h
  · rename_i e
    subst e
    cases h
    exact ⟨[], fun _ _ => rfl, relL_nil.2 rfl⟩
  · exact R.loadsAt h hd

theorem convA_sound (R : Rep E w0 H w ρ) {src dst : TypeId} {x : AV} {vx : Value} {a : AV} {H' : AHeap} (h : convA P E H src dst x = some (a, H')) (hx : rel ρ x vx)
    (hf : Fresh ρ H H') : Gives E w0 H ρ a H' ((convert src dst vx).run P w) := by
  unfold convA at h
  split at h
  · rename_i d k _ n h1 h2
    cases h
    simp only [rel] at hx; subst hx
    refine Gives.same R (v := .int k (k.wrap n)) ?_ (by simp only [rel])
    simp only [convert, Sem.run_bind, run_underlyingA h1, run_underlyingA h2, Result.andThen_ok]
    rfl
  · rename_i d s h1 h2
    cases h
    simp only [rel] at hx; subst hx
    refine Gives.same R (v := .string ⟨s.toArray⟩) ?_ (by simp only [rel])
    simp only [convert, Sem.run_bind, run_underlyingA h1, run_underlyingA h2, Result.andThen_ok]
    rfl
  · rename_i d e s h1 h2
    simp only [rel] at hx; subst hx
    split at h
    · rename_i he
      split at h
      · rename_i hs
        cases h
        let cap := (Question.appendCap (ByteArray.mk s.toArray).size 0 e).cut (w.tape w.drawn (.appendCap (ByteArray.mk s.toArray).size 0 e))
        have hsz : (ByteArray.mk s.toArray).size = s.length := by simp [ByteArray.size]
        have hcap : s.length ≤ cap := by
          simp only [cap, Question.cut, hsz]; exact Nat.le_add_right _ _
        let arr : Array Value := (s.toArray.map fun b => Value.int .u8 b.toNat) ++ Array.replicate (cap - (ByteArray.mk s.toArray).size) (.int .u8 0)
        have harr : arr.size = cap := by simp [arr, hsz]; omega
        let w1 : World := { w with drawn := w.drawn + 1, heap := w.heap.push (.cells arr e) }
        have hb : w1.heap[w.heap.size]? = some (.cells arr e (0, 0)) := by simp [w1]
        have hrun : (convert src dst (.string ⟨s.toArray⟩)).run P w = .ok (.slice (some ⟨w.heap.size, 0, none⟩) s.length cap)
            (putBlock w1 w.heap.size (.cells arr e (arr.size, arr.size + 1))) := by
          simp only [convert, Sem.run_bind, run_underlyingA h1, run_underlyingA h2, run_underlyingA he, Result.andThen_ok, Conv.stringToBytes, run_choose, Question.forced, Bool.false_eq_true,
            if_false, newRow, run_newObj, Sem.run_pure]
          have := run_markStringish (P := P) (i := 0) hb
          simp only [beq_self_eq_true, if_true] at this
          simp only [w1, arr, cap] at this
          rw [this]
          simp only [Result.andThen_ok, hsz, w1, arr, cap]
        refine Gives.new R hf (arr := arr) (el := e) (lo := arr.size) (hi := arr.size + 1) ?_ ?_ (.inr (Nat.le_refl _)) ?_ hrun ?_
        · simp [arr]
        · have : arr.toList.take (s.map fun b => AV.int .u8 b.toNat).length = s.map fun b => Value.int .u8 b.toNat := by
            simp [arr]
          rw [this]
          exact relL_bytes s
        · show (putBlock w1 w.heap.size _).heap = _
          simp only [putBlock, w1]
          apply Array.ext_getElem?
          intro j
          simp only [Array.getElem?_setIfInBounds, Array.getElem?_push, Array.size_push]
          split
          · rename_i e; subst e; simp
          · rename_i e; rw [if_neg (fun h => e h.symm), if_neg (fun h => e h.symm)]
        · rw [harr]
          exact rel_newSlc _ _ _ _ _ _ _ _ _ hcap hcap (fun h => by cases h) (by simp)
      · cases h
    · cases h
  · rename_i d e k i len cap ex sz h1 h2
    split at h
    · rename_i he
      split at h
      · rename_i hc
        cases h
        obtain ⟨rfl, hlen, hcell⟩ := hc
        have hde := h1.symm.trans h2
        cases hde
        have hx' := hx
        simp only [rel] at hx
        obtain ⟨ad, c, rfl, g1, g2, g3, g4, g5⟩ := hx
        obtain ⟨b, d', g6, rfl⟩ := g4.resolve_left (by omega)
        obtain ⟨cs, hcs⟩ := Option.isSome_iff_exists.1 hcell
        simp only [cellsOf] at hcs
        split at hcs
        · rename_i cs' wr pre hk
          obtain ⟨l, hl, hb0, arr, el, lo, hi, m1, m2, m3, m4, m5⟩ := R.objs k _ hk
          simp only [baseOf, hl, Option.map_some, Option.some.injEq, Prod.mk.injEq] at g6
          obtain ⟨rfl, rfl⟩ := g6
          refine ⟨.slice (some ⟨l.blk, l.d + i, none⟩) len c, _, ρ, ?_, Ext.refl _, fun _ _ => rfl, hx', R.mark m1 hb0 (lo' := if lo == hi then arr.size else min lo arr.size)
            (hi' := if lo == hi then arr.size + 1 else max hi (arr.size + 1)) ?_, Nat.le_refl _⟩
          · simp only [convert, Sem.run_bind, run_underlyingA h1, run_underlyingA he, Result.andThen_ok, beq_self_eq_true, run_markStringish m1, Sem.run_pure]
            congr 2
            split <;> rfl
          · intro hz
            by_cases e1 : lo = hi
            · right; simp [e1]
            · right
              have := hz.resolve_left e1
              simp [e1]; omega
        · cases hcs
      · cases h
    · cases h
  · rename_i e h1 h2 _
    split at h
    · rename_i he
      split at h
      · cases h
        simp only [rel] at hx; subst hx
        refine Gives.same R (v := .string ⟨#[]⟩) ?_ (by simp only [rel])
        simp only [convert, Sem.run_bind, run_underlyingA h1, run_underlyingA h2, run_underlyingA he, Result.andThen_ok]
        rfl
      · rename_i o i len cap ex sz _
        split at h
        · rename_i cs hcs
          simp only [Option.map_eq_some_iff] at h
          obtain ⟨bs, hbs, h⟩ := h
          cases h
          simp only [rel] at hx
          obtain ⟨ad, c, rfl, g1, g2, g3, g4, g5⟩ := hx
          refine Gives.same R (v := .string ⟨bs.toArray⟩) ?_ (by simp only [rel])
          obtain ⟨vs, k1, k2⟩ := R.rangeAt (P := P) hcs (g4.imp (fun e => by omega) id)
          simp only [convert, Sem.run_bind, run_underlyingA h1, run_underlyingA h2, run_underlyingA he, Result.andThen_ok, Conv.bytesToString, k1 w rfl]
          rw [← Array.forIn_toList]
          rw [forIn_bytes (P := P) _ (fun _ _ => rfl) cs vs bs _ hbs k2 w]
          simp [ByteArray.empty, ByteArray.emptyWithCapacity]
          rfl
        · cases h
      · cases h
    · cases h
  · cases h
end
end Go.Am
