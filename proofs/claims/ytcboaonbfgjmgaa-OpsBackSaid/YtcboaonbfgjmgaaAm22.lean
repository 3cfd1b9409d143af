/-
  Regions that draw their order: what the abstract machine's masks and folds hold.
-/
import Derived.Test.YtcboaonbfgjmgaaAm21
namespace Go.Am

mutual
theorem sameA_eq : ∀ (a b : AV), sameA a b = true → a = b
  | .bool a, b, h => by cases b <;> simp_all [sameA]
  | .int j a, b, h => by cases b <;> simp_all [sameA]
  | .str a, b, h => by cases b <;> simp_all [sameA]
  | .nilPtr, b, h => by cases b <;> simp_all [sameA]
  | .ptr o i, b, h => by cases b <;> simp_all [sameA]
  | .nilSlc, b, h => by cases b <;> simp_all [sameA]
  | .slc .., b, h => by cases b <;> simp_all [sameA]
  | .nilMap, b, h => by cases b <;> simp_all [sameA]
  | .map k, b, h => by cases b <;> simp_all [sameA]
  | .fn f x y, b, h => by
    cases b <;> simp only [sameA, Bool.and_eq_true, decide_eq_true_eq] at h <;> try (cases h; done)
    obtain ⟨⟨rfl, h1⟩, h2⟩ := h
    rw [sameL_eq x _ h1, sameL_eq y _ h2]
  | .nilFn, b, h => by cases b <;> simp_all [sameA]
  | .ifc t v, b, h => by
    cases b <;> simp only [sameA, Bool.and_eq_true, beq_iff_eq] at h <;> try (cases h; done)
    obtain ⟨rfl, h2⟩ := h
    rw [sameA_eq v _ h2]
  | .nilIfc, b, h => by cases b <;> simp_all [sameA]
  | .agg x, b, h => by
    cases b <;> simp only [sameA] at h <;> try (cases h; done)
    rw [sameL_eq x _ h]
  | .tup x, b, h => by
    cases b <;> simp only [sameA] at h <;> try (cases h; done)
    rw [sameL_eq x _ h]
  | .opq v, b, h => by cases b <;> simp_all [sameA]
theorem sameL_eq : ∀ (a b : List AV), sameL a b = true → a = b
  | [], b, h => by cases b <;> simp_all [sameL]
  | x :: l, b, h => by
    cases b <;> simp only [sameL, Bool.and_eq_true] at h <;> try (cases h; done)
    rw [sameA_eq x _ h.1, sameL_eq l _ h.2]
end

theorem sameO_eq {a b : Option AObj} (h : sameO a b = true) : a = b := by
  unfold sameO at h
  split at h
  · rfl
  · simp only [Bool.and_eq_true, beq_iff_eq] at h
    obtain ⟨⟨h1, rfl⟩, rfl⟩ := h
    rw [sameL_eq _ _ h1]
  · simp only [beq_iff_eq] at h; rw [h]
  · cases h

theorem sameKV_eq : ∀ {a b : List (Nat × Option AObj)}, sameKV a b = true → a = b
  | [], b, h => by cases b <;> simp_all [sameKV]
  | x :: l, b, h => by
    cases b <;> simp only [sameKV, Bool.and_eq_true, beq_iff_eq] at h <;> try (cases h; done)
    obtain ⟨⟨h1, h2⟩, h3⟩ := h
    rw [sameKV_eq h3, show x = _ from Prod.ext h1 (sameO_eq h2)]

theorem allI_spec {p : Nat → Done → Bool} : ∀ {ds : List Done} {j : Nat}, allI p j ds = true → ∀ (i : Nat) (d : Done), ds[i]? = some d → p (j + i) d = true
  | [], j, _, i, d, e => by simp at e
  | x :: ds, j, h, i, d, e => by
    simp only [allI, Bool.and_eq_true] at h
    cases i with
    | zero => simp at e; subst e; exact h.1
    | succ i =>
      have := allI_spec h.2 i d (by simpa using e)
      rwa [show j + (i + 1) = j + 1 + i by omega]

theorem keep_val {lo hi : Nat} {H : AHeap} : ∀ x ∈ keep lo hi H, x.2 = H.get x.1 := by
  intro x hx
  simp only [keep, List.mem_map] at hx
  obtain ⟨k, _, rfl⟩ := hx
  rfl
theorem keep_key {lo hi : Nat} {H : AHeap} {k : Nat} : k ∈ (keep lo hi H).map (·.1) ↔ (k ∈ H.log ∧ k < lo) ∨ (lo ≤ k ∧ k < hi ∧ (H.get k).isSome = true) := by
  simp only [keep, List.map_map, Function.comp_def, List.map_id', List.mem_append, List.mem_filter, decide_eq_true_eq, List.mem_range'_1]
  constructor
  · rintro (h | ⟨⟨h1, h2⟩, h3⟩)
    · exact .inl h
    · exact .inr ⟨h1, by omega, h3⟩
  · rintro (h | ⟨h1, h2, h3⟩)
    · exact .inl h
    · exact .inr ⟨⟨h1, by omega⟩, h3⟩

theorem get_setO (H : AHeap) (lg : List Nat) (k j : Nat) (x : Option AObj) : ({ H with objs := H.objs.set k x, log := lg } : AHeap).get j = if k = j then x else H.get j := by
  simp only [AHeap.get, Trie.get_set]

theorem get_putKV {lim : Nat} {g : Nat → Option AObj} (k : Nat) : ∀ (kv : List (Nat × Option AObj)) (H : AHeap), (∀ x ∈ kv, x.2 = g x.1) →
    (putKV lim kv H).get k = if k < lim ∧ k ∈ kv.map (·.1) then clip lim (g k) else H.get k
  | [], H, _ => by simp [putKV]
  | x :: l, H, h => by
    rw [putKV, get_putKV k l _ fun y hy => h y (List.mem_cons_of_mem _ hy)]
    have hx := h x List.mem_cons_self
    by_cases hm : k < lim ∧ k ∈ l.map (·.1)
    · rw [if_pos hm, if_pos ⟨hm.1, by simp only [List.map_cons, List.mem_cons]; exact .inr hm.2⟩]
    · rw [if_neg hm]
      by_cases hk : k = x.1
      · subst hk
        by_cases hl : x.1 < lim
        · rw [if_pos hl, if_pos ⟨hl, by simp⟩, get_setO, if_pos rfl, hx]
        · rw [if_neg hl, if_neg (fun e => hl e.1)]
      · rw [if_neg (c := k < lim ∧ k ∈ List.map (·.1) (x :: l))]
        · split
          · rw [get_setO, if_neg (Ne.symm hk)]
          · rfl
        · rintro ⟨e1, e2⟩
          simp only [List.map_cons, List.mem_cons] at e2
          rcases e2 with e2 | e2
          · exact hk e2
          · exact hm ⟨e1, e2⟩

theorem get_putAll {lo : Nat} {g : Nat → Option AObj} (k : Nat) : ∀ (kv : List (Nat × Option AObj)) (H : AHeap), (∀ x ∈ kv, x.2 = g x.1) →
    (putAll lo kv H).get k = if k ∈ kv.map (·.1) then g k else H.get k
  | [], H, _ => by simp [putAll]
  | x :: l, H, h => by
    rw [putAll, get_putAll k l _ fun y hy => h y (List.mem_cons_of_mem _ hy)]
    have hx := h x List.mem_cons_self
    by_cases hm : k ∈ l.map (·.1)
    · rw [if_pos hm, if_pos (by simp only [List.map_cons, List.mem_cons]; exact .inr hm)]
    · rw [if_neg hm, get_setO]
      by_cases hk : x.1 = k
      · rw [if_pos hk, if_pos (by simp [hk]), ← hk, hx]
      · rw [if_neg hk, if_neg]
        simp only [List.map_cons, List.mem_cons]
        rintro (e | e)
        · exact hk e.symm
        · exact hm e

theorem clip_some {lim : Nat} {x : Option AObj} {o : AObj} (h : clip lim x = some o) : x = some o ∧ ∀ p ∈ preOf o, p < lim := by
  cases x with
  | none => cases h
  | some y =>
    simp only [clip] at h
    split at h
    · rename_i hp
      cases h
      exact ⟨rfl, fun p hm => by simpa using List.all_eq_true.1 hp p hm⟩
    · cases h

theorem putKV_sub {lim : Nat} : ∀ (kv : List (Nat × Option AObj)) {A B : AHeap}, (∀ k o, A.get k = some o → B.get k = some o) → ∀ k o, (putKV lim kv A).get k = some o → (putKV lim kv B).get k = some o
  | [], A, B, h => h
  | x :: l, A, B, h => by
    simp only [putKV]
    refine putKV_sub l ?_
    split
    · intro k o hk
      have e1 := get_setO A A.log x.1 k (clip lim x.2)
      have e2 := get_setO B B.log x.1 k (clip lim x.2)
      rw [e1] at hk; rw [e2]
      split
      · rename_i e; rwa [if_pos e] at hk
      · rename_i e; rw [if_neg e] at hk; exact h k o hk
    · exact h
theorem maskR_sub {lim : Nat} {p : Nat → Done → Bool} : ∀ (ds : List Done) (j : Nat) {A B : AHeap}, (∀ k o, A.get k = some o → B.get k = some o) → ∀ k o, (maskR lim p j ds A).get k = some o → (maskR lim p j ds B).get k = some o
  | [], _, A, B, h => h
  | d :: ds, j, A, B, h => by
    simp only [maskR]
    refine maskR_sub ds (j + 1) ?_
    split
    · exact putKV_sub _ h
    · exact h

theorem putKV_above {lim : Nat} : ∀ (kv : List (Nat × Option AObj)) {A : AHeap} {k : Nat}, lim ≤ k → (putKV lim kv A).get k = A.get k
  | [], A, k, _ => rfl
  | x :: l, A, k, h => by
    rw [putKV, putKV_above l h]
    split
    · rw [show ({ A with objs := A.objs.set x.1 (clip lim x.2) } : AHeap).get k = _ from get_setO A A.log x.1 k _, if_neg (by omega)]
    · rfl
theorem maskR_above {lim : Nat} {p : Nat → Done → Bool} : ∀ (ds : List Done) (j : Nat) {A : AHeap} {k : Nat}, lim ≤ k → (maskR lim p j ds A).get k = A.get k
  | [], _, A, k, _ => rfl
  | d :: ds, j, A, k, h => by
    rw [maskR, maskR_above ds _ h]
    split
    · exact putKV_above _ h
    · rfl

theorem putKV_pre {lim : Nat} : ∀ (kv : List (Nat × Option AObj)) {A : AHeap}, (∀ k o, A.get k = some o → ∀ p ∈ preOf o, p < lim) → ∀ k o, (putKV lim kv A).get k = some o → ∀ p ∈ preOf o, p < lim
  | [], A, h => h
  | x :: l, A, h => by
    simp only [putKV]
    refine putKV_pre l ?_
    split
    · intro k o hk
      rw [show ({ A with objs := A.objs.set x.1 (clip lim x.2) } : AHeap).get k = _ from get_setO A A.log x.1 k _] at hk
      split at hk
      · exact (clip_some hk).2
      · exact h k o hk
    · exact h
theorem maskR_pre {lim : Nat} {p : Nat → Done → Bool} : ∀ (ds : List Done) (j : Nat) {A : AHeap}, (∀ k o, A.get k = some o → ∀ p ∈ preOf o, p < lim) → ∀ k o, (maskR lim p j ds A).get k = some o → ∀ p ∈ preOf o, p < lim
  | [], _, A, h => h
  | d :: ds, j, A, h => by
    simp only [maskR]
    refine maskR_pre ds (j + 1) ?_
    split
    · exact putKV_pre _ h
    · exact h

theorem mask_wf {M : AHeap} (hw : Wf M) {lim : Nat} (hl : M.next ≤ lim) (p : Nat → Done → Bool) (j : Nat) (ds : List Done) : Wf (atN (maskR lim p j ds M) lim) :=
  ⟨fun k hk => by
    show (maskR lim p j ds M).get k = none
    have hk' : lim ≤ k := hk
    rw [maskR_above ds j hk']
    exact hw.1 k (Nat.le_trans hl hk),
   fun k o hk => maskR_pre ds j (fun k o e q hq => Nat.lt_of_lt_of_le (hw.2 k o e q hq) hl) k o hk⟩

/-- What is so of each operation that is done. -/
structure Ok (d : Done) : Prop where
  le : d.lo ≤ d.hi
  val : ∃ g : Nat → Option AObj, ∀ x ∈ d.kv, x.2 = g x.1
  key : ∀ k ∈ d.kv.map (·.1), k < d.hi
  new : d.wr = false → ∀ k ∈ d.kv.map (·.1), d.lo ≤ k
  pre : ∀ k o, (k, some o) ∈ d.kv → ∀ p ∈ preOf o, p < d.hi

def Ch : Nat → List Done → Nat → Prop
  | a, [], n => a = n
  | a, d :: ds, n => d.lo = a ∧ Ok d ∧ Ch d.hi ds n

theorem Ch.le : ∀ {ds : List Done} {a n : Nat}, Ch a ds n → a ≤ n
  | [], a, n, h => by simp only [Ch] at h; omega
  | d :: ds, a, n, h => by
    obtain ⟨h1, h2, h3⟩ := h
    have := h3.le; have := h2.le; omega
theorem Ch.snoc : ∀ {ds : List Done} {a : Nat} {d : Done}, Ch a ds d.lo → Ok d → Ch a (ds ++ [d]) d.hi
  | [], a, d, h, hd => by simp only [Ch] at h; exact ⟨h.symm, hd, rfl⟩
  | e :: ds, a, d, h, hd => ⟨h.1, h.2.1, Ch.snoc h.2.2 hd⟩
theorem Ch.at : ∀ {ds : List Done} {a n : Nat}, Ch a ds n → ∀ (i : Nat) (d : Done), ds[i]? = some d → Ok d ∧ a ≤ d.lo ∧ d.hi ≤ n
  | [], a, n, h, i, d, e => by simp at e
  | x :: ds, a, n, h, i, d, e => by
    obtain ⟨h1, h2, h3⟩ := h
    cases i with
    | zero => simp at e; subst e; exact ⟨h2, by omega, h3.le⟩
    | succ i =>
      obtain ⟨g1, g2, g3⟩ := h3.at i d (by simpa using e)
      exact ⟨g1, by have := h2.le; omega, g3⟩
theorem Ch.lt : ∀ {ds : List Done} {a n : Nat}, Ch a ds n → ∀ (i j : Nat) (d e : Done), i < j → ds[i]? = some d → ds[j]? = some e → d.hi ≤ e.lo
  | [], a, n, h, i, j, d, e, _, hd, _ => by simp at hd
  | x :: ds, a, n, h, i, j, d, e, hij, hd, he => by
    obtain ⟨h1, h2, h3⟩ := h
    cases j with
    | zero => omega
    | succ j =>
      cases i with
      | zero => simp at hd; subst hd; exact (h3.at j e (by simpa using he)).2.1
      | succ i => exact h3.lt i j d e (by omega) (by simpa using hd) (by simpa using he)
end Go.Am
