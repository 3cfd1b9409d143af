/-
  Code of the abstract machine and of the model, but for regions that draw their order.
-/
import Derived.Test.YtcboaonbfgjmgaaAm15
import Derived.LoopN
namespace Go.Am
section
variable {E : Env} {w0 : World} {P : Program}

theorem next_growA {H : AHeap} {size bytes n : Nat} {s a : AV} {news : List AV} {H' : AHeap} (h : growA E H size bytes s n news = some (a, H')) : H.next ≤ H'.next := by
  unfold growA at h
  repeat' (split at h)
  all_goals first | (cases h; done) | (cases h; simp [newCells])

theorem next_opA {T : List AV} {H : AHeap} {o : Oper} {v : AV} {H' : AHeap} (h : opA P E T H o = some (.val v H')) : H.next ≤ H'.next := by
  unfold opA at h
  simp only at h
  split at h
  case h_30 c =>
    unfold callA at h
    simp only at h
    have hen : ∀ {f : FuncId} {args : List AV}, enterA P H f args = some (.val v H') → False := by
      intro f args he
      unfold enterA at he
      split at he <;> cases he
    split at h
    · split at h
      · exact (hen h).elim
      · split at h
        · simp only [Option.bind_eq_some_iff] at h
          obtain ⟨_, _, h⟩ := h
          exact (hen h).elim
        · cases h
      · split at h
        · split at h
          · exact (hen h).elim
          · cases h
        · cases h
      · cases h
    · split at h
      · simp only [Option.bind_eq_some_iff] at h
        obtain ⟨_, _, h⟩ := h
        exact (hen h).elim
      · cases h
    · split at h
      · simp only [Option.map_eq_some_iff, ARes.val.injEq] at h
        obtain ⟨⟨a, H1⟩, ha, rfl, rfl⟩ := h
        unfold appendA at ha
        simp only [Option.bind_eq_bind, Option.bind_eq_some_iff] at ha
        obtain ⟨e, he, size, hs, bytes, hb, z, hz, ha⟩ := ha
        split at ha
        · split at ha
          · simp only [Option.bind_eq_some_iff] at ha
            obtain ⟨l, hl, ha⟩ := ha
            split at ha
            · exact next_growA ha
            · cases ha
          · simp only [Option.bind_eq_some_iff] at ha
            obtain ⟨l, hl, nw, hn, ha⟩ := ha
            exact next_growA ha
          · cases ha
        · cases ha
      · split at h
        · cases h; exact Nat.le_refl _
        · simp only [Option.map_eq_some_iff, ARes.val.injEq] at h
          obtain ⟨_, _, _, rfl⟩ := h; exact Nat.le_refl _
      · simp only [Option.map_eq_some_iff, ARes.val.injEq] at h
        obtain ⟨_, _, _, rfl⟩ := h; exact Nat.le_refl _
      · simp only [Option.map_eq_some_iff, ARes.val.injEq] at h
        obtain ⟨⟨a, H1⟩, ha, rfl, rfl⟩ := h
        unfold copyA at ha
        simp only [Option.bind_eq_bind, Option.bind_eq_some_iff] at ha
        obtain ⟨e, he, size, hs, k, hk, ha⟩ := ha
        split at ha
        · cases ha; exact Nat.le_refl _
        · simp only [Option.bind_eq_some_iff] at ha
          obtain ⟨nw, hn, H2, hst, ha⟩ := ha
          cases ha
          rw [next_storeRange hst]; exact Nat.le_refl _
        · cases ha
      · simp only [Option.map_eq_some_iff, ARes.val.injEq] at h
        obtain ⟨_, _, _, rfl⟩ := h; exact Nat.le_refl _
      · simp only [Option.map_eq_some_iff, ARes.val.injEq] at h
        obtain ⟨_, _, _, rfl⟩ := h; exact Nat.le_refl _
      · cases h
  case h_9 =>
    split at h
    · split at h
      · simp only [Option.map_eq_some_iff, ARes.val.injEq] at h
        obtain ⟨H1, hst, rfl, rfl⟩ := h
        rw [next_storeRange hst]; exact Nat.le_refl _
      · cases h
    · cases h
  case h_13 =>
    simp only [Option.map_eq_some_iff, ARes.val.injEq] at h
    obtain ⟨⟨a, H1⟩, ha, rfl, rfl⟩ := h
    unfold convA at ha
    repeat' (split at ha)
    all_goals first
      | (cases ha; done)
      | (cases ha; simp [newCells]; done)
      | (simp only [Option.map_eq_some_iff] at ha
         obtain ⟨_, _, ha⟩ := ha
         cases ha; exact Nat.le_refl _)
  case h_7 =>
    simp only [Option.map_eq_some_iff, ARes.val.injEq] at h
    obtain ⟨⟨a, H1⟩, ha, rfl, rfl⟩ := h
    unfold buildSliceA at ha
    simp only [Option.bind_eq_bind, Option.bind_eq_some_iff] at ha
    obtain ⟨e, he, size, hs, ha⟩ := ha
    split at ha
    · simp only [Option.bind_eq_some_iff] at ha
      obtain ⟨z, hz, ha⟩ := ha
      split at ha
      · simp only [Option.bind_eq_some_iff] at ha
        obtain ⟨cs, hcs, ha⟩ := ha
        cases ha; simp [newCells]
      · cases ha
    · cases ha
  case h_17 =>
    simp only [Option.map_eq_some_iff, ARes.val.injEq] at h
    obtain ⟨⟨a, H1⟩, ha, rfl, rfl⟩ := h
    unfold makeSliceA at ha
    simp only [Option.bind_eq_bind, Option.bind_eq_some_iff] at ha
    obtain ⟨e, he, size, hs, b, hb, l, hl, c, hc, z, hz, ha⟩ := ha
    split at ha
    · cases ha; simp [newCells]
    · cases ha
  case h_24 | h_25 =>
    simp only [Option.map_eq_some_iff, ARes.val.injEq] at h
    obtain ⟨H1, hst, rfl, rfl⟩ := h
    rw [next_update hst]; exact Nat.le_refl _
  case h_26 =>
    simp only [Option.map_eq_some_iff, ARes.val.injEq] at h
    obtain ⟨⟨a, H1⟩, ha, rfl, rfl⟩ := h
    unfold entryA at ha
    repeat' (split at ha)
    all_goals first
      | (cases ha; done)
      | (cases ha; exact Nat.le_refl _)
  case h_27 =>
    simp only [Option.map_eq_some_iff, ARes.val.injEq] at h
    obtain ⟨H1, hst, rfl, rfl⟩ := h
    rw [next_entryStore hst]; exact Nat.le_refl _
  all_goals
    repeat' (split at h)
    all_goals first
      | (cases h; done)
      | (cases h; simp [newCells]; done)
      | (simp only [Option.map_eq_some_iff, ARes.val.injEq] at h
         obtain ⟨_, _, _, rfl⟩ := h; exact Nat.le_refl _)
theorem callH_opA {T : List AV} {H : AHeap} {o : Oper} {f : FuncId} {args : List AV} {H' : AHeap} (h : opA P E T H o = some (.call f args H')) : H' = H := by
  unfold opA at h
  simp only at h
  split at h
  case h_30 c =>
    unfold callA at h
    simp only at h
    have hen : ∀ {g : FuncId} {l : List AV}, enterA P H g l = some (.call f args H') → H' = H := by
      intro g l he
      unfold enterA at he
      split at he
      · cases he; rfl
      · cases he
    split at h
    · split at h
      · exact hen h
      · split at h
        · simp only [Option.bind_eq_some_iff] at h
          obtain ⟨_, _, h⟩ := h
          exact hen h
        · cases h
      · split at h
        · split at h
          · exact hen h
          · cases h
        · cases h
      · cases h
    · split at h
      · simp only [Option.bind_eq_some_iff] at h
        obtain ⟨_, _, h⟩ := h
        exact hen h
      · cases h
    · repeat' (split at h)
      all_goals first
        | (cases h; done)
        | (simp only [Option.map_eq_some_iff] at h
           obtain ⟨_, _, h⟩ := h
           cases h)
  all_goals
    repeat' (split at h)
    all_goals first
      | (cases h; done)
      | (simp only [Option.map_eq_some_iff] at h
         obtain ⟨_, _, h⟩ := h
         cases h)
end
end Go.Am
