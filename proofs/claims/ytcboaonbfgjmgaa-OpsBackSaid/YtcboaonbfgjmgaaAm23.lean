/-
  Regions that draw their order: folds over what is done, and what a run in the order of the text has looked at.
-/
import Derived.Test.YtcboaonbfgjmgaaAm22
namespace Go.Am

def foldG (D : Nat → Bool) : Nat → List Done → AHeap → AHeap
  | _, [], H => H
  | j, d :: ds, H => foldG D (j + 1) ds (if D j then putAll d.lo d.kv H else H)
def foldT (D : Nat → Bool) : Nat → List Done → List AV → List AV
  | _, [], T => T
  | j, d :: ds, T => foldT D (j + 1) ds (if D j then putA T d.o.dst d.v else T)

theorem foldG_all : ∀ (ds : List Done) (j : Nat) (H : AHeap), foldG (fun _ => true) j ds H = allR ds H
  | [], _, _ => rfl
  | d :: ds, j, H => by simp only [foldG, allR, if_true]; exact foldG_all ds _ _

theorem foldG_congr {D D' : Nat → Bool} : ∀ (ds : List Done) (j : Nat) (H : AHeap), (∀ m, j ≤ m → m < j + ds.length → D m = D' m) → foldG D j ds H = foldG D' j ds H
  | [], _, _, _ => rfl
  | d :: ds, j, H, h => by
    simp only [foldG]
    rw [h j (Nat.le_refl _) (by simp), foldG_congr ds (j + 1) _ fun m h1 h2 => h m (by omega) (by simp only [List.length_cons]; omega)]
theorem foldT_congr {D D' : Nat → Bool} : ∀ (ds : List Done) (j : Nat) (T : List AV), (∀ m, j ≤ m → m < j + ds.length → D m = D' m) → foldT D j ds T = foldT D' j ds T
  | [], _, _, _ => rfl
  | d :: ds, j, H, h => by
    simp only [foldT]
    rw [h j (Nat.le_refl _) (by simp), foldT_congr ds (j + 1) _ fun m h1 h2 => h m (by omega) (by simp only [List.length_cons]; omega)]

theorem foldG_over {D : Nat → Bool} {S : List Nat} {g : Nat → Option AObj} : ∀ (ds : List Done) (j : Nat) (A B : AHeap), (∀ (i : Nat) (d : Done), ds[i]? = some d → Ok d) →
    (∀ (i : Nat) (d : Done), ds[i]? = some d → D (j + i) = true → ∀ k ∈ d.kv.map (·.1), k ∉ S) → (∀ k, A.get k = if k ∈ S then g k else B.get k) →
    ∀ k, (foldG D j ds A).get k = if k ∈ S then g k else (foldG D j ds B).get k
  | [], _, _, _, _, _, h => h
  | d :: ds, j, A, B, ho, hd, h => by
    simp only [foldG]
    refine foldG_over ds (j + 1) _ _ (fun i e he => ho (i + 1) e (by simpa using he)) (fun i e he hD => hd (i + 1) e (by simpa using he) (by rwa [show j + (i + 1) = j + 1 + i by omega])) ?_
    split
    · rename_i hj
      obtain ⟨g', hg'⟩ := (ho 0 d rfl).val
      intro k
      rw [get_putAll k _ A hg', get_putAll k _ B hg', h k]
      by_cases hk : k ∈ d.kv.map (·.1)
      · rw [if_pos hk, if_neg (hd 0 d rfl (by simpa using hj) k hk), if_pos hk]
      · rw [if_neg hk, if_neg hk]
    · exact h

theorem foldG_insert {D : Nat → Bool} {g : Nat → Option AObj} {d : Done} (hg : ∀ x ∈ d.kv, x.2 = g x.1) : ∀ (ds : List Done) (j i : Nat) (H : AHeap), (∀ (i : Nat) (d : Done), ds[i]? = some d → Ok d) →
    ds[i]? = some d → D (j + i) = false → (∀ (m : Nat) (e : Done), i < m → ds[m]? = some e → D (j + m) = true → ∀ k ∈ e.kv.map (·.1), k ∉ d.kv.map (·.1)) →
    ∀ k, (foldG (fun x => x == j + i || D x) j ds H).get k = if k ∈ d.kv.map (·.1) then g k else (foldG D j ds H).get k
  | [], _, _, _, _, h, _, _ => by simp at h
  | x :: ds, j, 0, H, ho, h, hD, hdis => by
    simp at h
    subst h
    have hD' : D j = false := hD
    simp only [foldG, Nat.add_zero, beq_self_eq_true, Bool.true_or, if_true, hD', Bool.false_eq_true, if_false]
    rw [foldG_congr (D := fun x => x == j || D x) (D' := D) ds (j + 1) _ (fun m h1 h2 => by
      have : (m == j) = false := by simp; omega
      simp only [this, Bool.false_or])]
    refine foldG_over ds (j + 1) _ _ (fun i e he => ho (i + 1) e (by simpa using he)) (fun i e he hDi => hdis (i + 1) e (by omega) (by simpa using he) (by rwa [show j + (i + 1) = j + 1 + i by omega])) ?_
    intro k
    exact get_putAll k _ H hg
  | x :: ds, j, i + 1, H, ho, h, hD, hdis => by
    simp only [foldG]
    have e0 : (j == j + (i + 1) || D j) = D j := by
      have : (j == j + (i + 1)) = false := by simp
      rw [this, Bool.false_or]
    simp only [e0]
    rw [show j + (i + 1) = j + 1 + i by omega]
    exact foldG_insert hg ds (j + 1) i _ (fun i e he => ho (i + 1) e (by simpa using he)) (by simpa using h) (by rwa [show j + 1 + i = j + (i + 1) by omega])
      (fun m e hm he hDm => hdis (m + 1) e (by omega) (by simpa using he) (by rwa [show j + (m + 1) = j + 1 + m by omega]))

theorem putA_comm {a b : Option Tmp} {v u : AV} (T : List AV) (h : ∀ x, a = some x → b ≠ some x) : putA (putA T a v) b u = putA (putA T b u) a v := by
  cases a with
  | none => rfl
  | some x =>
    cases b with
    | none => rfl
    | some y =>
      simp only [putA]
      exact List.set_comm _ _ (fun e => h x rfl (by rw [e]))

theorem foldT_put {D : Nat → Bool} {dst : Option Tmp} {v : AV} : ∀ (ds : List Done) (j : Nat) (T : List AV), (∀ (i : Nat) (d : Done), ds[i]? = some d → D (j + i) = true → ∀ x, dst = some x → d.o.dst ≠ some x) →
    foldT D j ds (putA T dst v) = putA (foldT D j ds T) dst v
  | [], _, _, _ => rfl
  | d :: ds, j, T, h => by
    simp only [foldT]
    rw [← foldT_put ds (j + 1) _ fun i e he hD => h (i + 1) e (by simpa using he) (by rwa [show j + (i + 1) = j + 1 + i by omega])]
    split
    · rename_i hj
      rw [putA_comm T (h 0 d rfl (by simpa using hj))]
    · rfl

theorem foldT_insert {D : Nat → Bool} {d : Done} : ∀ (ds : List Done) (j i : Nat) (T : List AV), ds[i]? = some d → D (j + i) = false →
    (∀ (m : Nat) (e : Done), i < m → ds[m]? = some e → D (j + m) = true → ∀ x, d.o.dst = some x → e.o.dst ≠ some x) →
    foldT (fun x => x == j + i || D x) j ds T = putA (foldT D j ds T) d.o.dst d.v
  | [], _, _, _, h, _, _ => by simp at h
  | x :: ds, j, 0, T, h, hD, hdis => by
    simp at h
    subst h
    have hD' : D j = false := hD
    simp only [foldT, Nat.add_zero, beq_self_eq_true, Bool.true_or, if_true, hD', Bool.false_eq_true, if_false]
    rw [foldT_congr (D := fun x => x == j || D x) (D' := D) ds (j + 1) _ (fun m h1 h2 => by
      have : (m == j) = false := by simp; omega
      simp only [this, Bool.false_or])]
    exact foldT_put ds (j + 1) _ (fun i e he hDi => hdis (i + 1) e (by omega) (by simpa using he) (by rwa [show j + (i + 1) = j + 1 + i by omega]))
  | x :: ds, j, i + 1, T, h, hD, hdis => by
    simp only [foldT]
    have e0 : (j == j + (i + 1) || D j) = D j := by
      have : (j == j + (i + 1)) = false := by simp
      rw [this, Bool.false_or]
    simp only [e0]
    rw [show j + (i + 1) = j + 1 + i by omega]
    exact foldT_insert ds (j + 1) i _ (by simpa using h) (by rwa [show j + 1 + i = j + (i + 1) by omega])
      (fun m e hm he hDm => hdis (m + 1) e (by omega) (by simpa using he) (by rwa [show j + (m + 1) = j + 1 + m by omega]))

theorem getElem?_putA {T U : List AV} {t : Nat} (h : T[t]? = U[t]?) (dst : Option Tmp) (v : AV) : (putA T dst v)[t]? = (putA U dst v)[t]? := by
  cases dst with
  | none => exact h
  | some d =>
    simp only [putA, List.getElem?_set]
    by_cases e : d = t
    · subst e
      have : d < T.length ↔ d < U.length := by
        constructor
        · intro e; refine Nat.lt_of_not_le fun e' => ?_
          rw [List.getElem?_eq_getElem e, List.getElem?_eq_none e'] at h; cases h
        · intro e; refine Nat.lt_of_not_le fun e' => ?_
          rw [List.getElem?_eq_getElem e, List.getElem?_eq_none e'] at h; cases h
      simp only [if_true, this]
    · simp only [e, if_false, h]
theorem getElem?_putA_ne {T : List AV} {t : Nat} {dst : Option Tmp} (v : AV) (h : dst ≠ some t) : (putA T dst v)[t]? = T[t]? := by
  cases dst with
  | none => rfl
  | some d => simp only [putA]; rw [List.getElem?_set_ne (fun e => h (by rw [e]))]

theorem foldT_agree {D D' : Nat → Bool} {t : Nat} : ∀ (ds : List Done) (j : Nat) (A B : List AV), (∀ (i : Nat) (d : Done), ds[i]? = some d → D (j + i) ≠ D' (j + i) → d.o.dst ≠ some t) → A[t]? = B[t]? →
    (foldT D j ds A)[t]? = (foldT D' j ds B)[t]?
  | [], _, _, _, _, h => h
  | d :: ds, j, A, B, hd, h => by
    simp only [foldT]
    refine foldT_agree ds (j + 1) _ _ (fun i e he hne => hd (i + 1) e (by simpa using he) (by rwa [show j + (i + 1) = j + 1 + i by omega])) ?_
    have h0 := hd 0 d rfl
    simp only [Nat.add_zero] at h0
    cases h1 : D j <;> cases h2 : D' j
    · exact h
    · simp only [Bool.false_eq_true, if_false, if_true]
      rw [getElem?_putA_ne _ (h0 (by rw [h1, h2]; decide)), h]
    · simp only [Bool.false_eq_true, if_false, if_true]
      rw [getElem?_putA_ne _ (h0 (by rw [h1, h2]; decide)), h]
    · exact getElem?_putA h _ _

theorem foldT_none {D : Nat → Bool} : ∀ (ds : List Done) (j : Nat) (T : List AV), (∀ m, j ≤ m → D m = false) → foldT D j ds T = T
  | [], _, _, _ => rfl
  | d :: ds, j, T, h => by
    simp only [foldT, h j (Nat.le_refl _), Bool.false_eq_true, if_false]
    exact foldT_none ds (j + 1) T fun m hm => h m (by omega)

theorem foldT_take : ∀ (ds : List Done) (i j : Nat) (T : List AV), foldT (fun _ => true) j (ds.take i) T = foldT (fun x => decide (x < j + i)) j ds T
  | [], i, j, T => by simp [foldT]
  | d :: ds, 0, j, T => by
    simp only [List.take_zero, foldT.eq_1]
    exact (foldT_none (d :: ds) j T fun m hm => by simp; omega).symm
  | d :: ds, i + 1, j, T => by
    have e1 : decide (j < j + (i + 1)) = true := by simp
    simp only [List.take_succ_cons, foldT, if_true, e1]
    rw [foldT_take ds i (j + 1), show j + 1 + i = j + (i + 1) by omega]

theorem maskR_congr {lim : Nat} {p q : Nat → Done → Bool} : ∀ (ds : List Done) (j : Nat) (A : AHeap), (∀ (i : Nat) (d : Done), ds[i]? = some d → p (j + i) d = q (j + i) d) → maskR lim p j ds A = maskR lim q j ds A
  | [], _, _, _ => rfl
  | d :: ds, j, A, h => by
    simp only [maskR]
    rw [show p j d = q j d from h 0 d rfl]
    exact maskR_congr ds (j + 1) _ fun i e he => by
      have := h (i + 1) e (by simpa using he)
      rwa [show j + (i + 1) = j + 1 + i by omega] at this

theorem maskR_none {lim : Nat} {p : Nat → Done → Bool} : ∀ (ds : List Done) (j : Nat) (A : AHeap), (∀ (i : Nat) (d : Done), ds[i]? = some d → p (j + i) d = false) → maskR lim p j ds A = A
  | [], _, _, _ => rfl
  | d :: ds, j, A, h => by
    simp only [maskR]
    rw [show p j d = false from h 0 d rfl]
    exact maskR_none ds (j + 1) _ fun i e he => by
      have := h (i + 1) e (by simpa using he)
      rwa [show j + (i + 1) = j + 1 + i by omega] at this

theorem maskR_take {lim : Nat} {p : Nat → Done → Bool} : ∀ (ds : List Done) (L j : Nat) (A : AHeap), maskR lim p j (ds.take L) A = maskR lim (fun x d => p x d && decide (x < j + L)) j ds A
  | [], L, j, A => by simp [maskR]
  | d :: ds, 0, j, A => by
    simp only [List.take_zero, maskR]
    refine (maskR_none (d :: ds) j A fun i e he => ?_).symm
    have : ¬ j + i < j + 0 := by omega
    simp
  | d :: ds, L + 1, j, A => by
    simp only [List.take_succ_cons, maskR]
    have : decide (j < j + (L + 1)) = true := by simp
    simp only [this, Bool.and_true]
    rw [maskR_take ds L (j + 1)]
    refine maskR_congr _ _ _ fun i e he => ?_
    rw [show j + 1 + L = j + (L + 1) by omega]

theorem mask_le {lim : Nat} {p : Nat → Done → Bool} {D : Nat → Bool} : ∀ (ds : List Done) (j a n : Nat) (A B : AHeap), Ch a ds n → (∀ (i : Nat) (d : Done), ds[i]? = some d → p (j + i) d = true → D (j + i) = true) →
    (∀ (i : Nat) (d : Done), ds[i]? = some d → D (j + i) = true → p (j + i) d = false → d.wr = false) → (∀ k o, A.get k = some o → B.get k = some o ∧ k < a ∧ k < lim) →
    ∀ k o, (maskR lim p j ds A).get k = some o → (foldG D j ds B).get k = some o
  | [], _, _, _, _, _, _, _, _, h => fun k o e => (h k o e).1
  | d :: ds, j, a, n, A, B, hc, h1, h2, h => by
    obtain ⟨rfl, ok, hc'⟩ := hc
    simp only [maskR, foldG]
    refine mask_le ds (j + 1) d.hi n _ _ hc' (fun i e he hp => ?_) (fun i e he hD hp => ?_) ?_
    · have := h1 (i + 1) e (by simpa using he) (by rwa [show j + (i + 1) = j + 1 + i by omega])
      rwa [show j + (i + 1) = j + 1 + i by omega] at this
    · exact h2 (i + 1) e (by simpa using he) (by rwa [show j + (i + 1) = j + 1 + i by omega]) (by rwa [show j + (i + 1) = j + 1 + i by omega])
    · obtain ⟨g, hg⟩ := ok.val
      have hle := ok.le
      cases hp : p j d with
      | true =>
        have hD := h1 0 d rfl (by simpa using hp)
        simp only [Nat.add_zero] at hD
        simp only [hD, if_true]
        intro k o hk
        rw [get_putKV k _ A hg] at hk
        rw [get_putAll k _ B hg]
        by_cases hkey : k ∈ d.kv.map (·.1)
        · rw [if_pos hkey]
          split at hk
          · rename_i hh
            exact ⟨(clip_some hk).1, ok.key k hkey, hh.1⟩
          · rename_i hh
            exact (hh ⟨(h k o hk).2.2, hkey⟩).elim
        · rw [if_neg (fun e => hkey e.2)] at hk
          rw [if_neg hkey]
          obtain ⟨a1, a2, a3⟩ := h k o hk
          exact ⟨a1, by omega, a3⟩
      | false =>
        simp only [Bool.false_eq_true, if_false]
        cases hD : D j with
        | false =>
          simp only [Bool.false_eq_true, if_false]
          intro k o hk
          obtain ⟨a1, a2, a3⟩ := h k o hk
          exact ⟨a1, by omega, a3⟩
        | true =>
          have hw := h2 0 d rfl (by simpa using hD) (by simpa using hp)
          simp only [if_true]
          intro k o hk
          obtain ⟨a1, a2, a3⟩ := h k o hk
          rw [get_putAll k _ B hg, if_neg (fun e => by have := ok.new hw k e; omega)]
          exact ⟨a1, by omega, a3⟩
end Go.Am
