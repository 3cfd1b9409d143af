/-
  Texts Am23 Am24 Am25 Am17, as far as they are used.
-/
import Derived.Test.YtchnpgddpaonhaaUaf
section
namespace Go.Am
def foldG (D : Nat → Bool) : Nat → List Done → AHeap → AHeap
  | _, [], H => H
  | j, d :: ds, H => foldG D (j + 1) ds (if D j then putAll d.lo d.kv H else H)
def foldT (D : Nat → Bool) : Nat → List Done → List AV → List AV
  | _, [], T => T
  | j, d :: ds, T => foldT D (j + 1) ds (if D j then putA T d.o.dst d.v else T)
theorem foldG_all : ∀ (ds : List Done) (j : Nat) (H : AHeap), foldG (fun _ => true) j ds H = allR ds H
  | [], _, _ => rfl
  | d :: ds, j, H => by simp only [foldG, allR, if_true]; exact foldG_all ds _ _
theorem foldG_congr {D D' : Nat → Bool} : ∀ (ds : List Done) (j : Nat) (H : AHeap), (∀ m, j ≤ m → m < j + ds.length → D m = D' m) → foldG D j ds H = foldG D' j ds H
  | [], _, _, _ => rfl
  | d :: ds, j, H, h => by
    simp only [foldG]
    rw [h j (Nat.le_refl _) (by simp), foldG_congr ds (j + 1) _ fun m h1 h2 => h m (by omega) (by simp only [List.length_cons]; omega)]
theorem foldT_congr {D D' : Nat → Bool} : ∀ (ds : List Done) (j : Nat) (T : List AV), (∀ m, j ≤ m → m < j + ds.length → D m = D' m) → foldT D j ds T = foldT D' j ds T
  | [], _, _, _ => rfl
  | d :: ds, j, H, h => by
    simp only [foldT]
    rw [h j (Nat.le_refl _) (by simp), foldT_congr ds (j + 1) _ fun m h1 h2 => h m (by omega) (by simp only [List.length_cons]; omega)]
theorem foldG_over {D : Nat → Bool} {S : List Nat} {g : Nat → Option AObj} : ∀ (ds : List Done) (j : Nat) (A B : AHeap), (∀ (i : Nat) (d : Done), ds[i]? = some d → Ok d) →
    (∀ (i : Nat) (d : Done), ds[i]? = some d → D (j + i) = true → ∀ k ∈ d.kv.map (·.1), k ∉ S) → (∀ k, A.get k = if k ∈ S then g k else B.get k) →
    ∀ k, (foldG D j ds A).get k = if k ∈ S then g k else (foldG D j ds B).get k
  | [], _, _, _, _, _, h => h
  | d :: ds, j, A, B, ho, hd, h => by
    simp only [foldG]
    refine foldG_over ds (j + 1) _ _ (fun i e he => ho (i + 1) e (by simpa using he)) (fun i e he hD => hd (i + 1) e (by simpa using he) (by rwa [show j + (i + 1) = j + 1 + i by omega])) ?_
    split
    · rename_i hj
      obtain ⟨g', hg'⟩ := (ho 0 d rfl).val
      intro k
      rw [get_putAll k _ A hg', get_putAll k _ B hg', h k]
      by_cases hk : k ∈ d.kv.map (·.1)
      · rw [if_pos hk, if_neg (hd 0 d rfl (by simpa using hj) k hk), if_pos hk]
      · rw [if_neg hk, if_neg hk]
    · exact h
theorem foldG_insert {D : Nat → Bool} {g : Nat → Option AObj} {d : Done} (hg : ∀ x ∈ d.kv, x.2 = g x.1) : ∀ (ds : List Done) (j i : Nat) (H : AHeap), (∀ (i : Nat) (d : Done), ds[i]? = some d → Ok d) →
    ds[i]? = some d → D (j + i) = false → (∀ (m : Nat) (e : Done), i < m → ds[m]? = some e → D (j + m) = true → ∀ k ∈ e.kv.map (·.1), k ∉ d.kv.map (·.1)) →
    ∀ k, (foldG (fun x => x == j + i || D x) j ds H).get k = if k ∈ d.kv.map (·.1) then g k else (foldG D j ds H).get k
  | [], _, _, _, _, h, _, _ => by simp at h
  | x :: ds, j, 0, H, ho, h, hD, hdis => by
    simp at h
    subst h
    have hD' : D j = false := hD
    simp only [foldG, Nat.add_zero, beq_self_eq_true, Bool.true_or, if_true, hD', Bool.false_eq_true, if_false]
    rw [foldG_congr (D := fun x => x == j || D x) (D' := D) ds (j + 1) _ (fun m h1 h2 => by
      have : (m == j) = false := by simp; omega
      simp only [this, Bool.false_or])]
    refine foldG_over ds (j + 1) _ _ (fun i e he => ho (i + 1) e (by simpa using he)) (fun i e he hDi => hdis (i + 1) e (by omega) (by simpa using he) (by rwa [show j + (i + 1) = j + 1 + i by omega])) ?_
    intro k
    exact get_putAll k _ H hg
  | x :: ds, j, i + 1, H, ho, h, hD, hdis => by
    simp only [foldG]
    have e0 : (j == j + (i + 1) || D j) = D j := by
      have : (j == j + (i + 1)) = false := by simp
      rw [this, Bool.false_or]
    simp only [e0]
    rw [show j + (i + 1) = j + 1 + i by omega]
    exact foldG_insert hg ds (j + 1) i _ (fun i e he => ho (i + 1) e (by simpa using he)) (by simpa using h) (by rwa [show j + 1 + i = j + (i + 1) by omega])
      (fun m e hm he hDm => hdis (m + 1) e (by omega) (by simpa using he) (by rwa [show j + (m + 1) = j + 1 + m by omega]))
theorem putA_comm {a b : Option Tmp} {v u : AV} (T : List AV) (h : ∀ x, a = some x → b ≠ some x) : putA (putA T a v) b u = putA (putA T b u) a v := by
  cases a with
  | none => rfl
  | some x =>
    cases b with
    | none => rfl
    | some y =>
      simp only [putA]
      exact List.set_comm _ _ (fun e => h x rfl (by rw [e]))
theorem foldT_put {D : Nat → Bool} {dst : Option Tmp} {v : AV} : ∀ (ds : List Done) (j : Nat) (T : List AV), (∀ (i : Nat) (d : Done), ds[i]? = some d → D (j + i) = true → ∀ x, dst = some x → d.o.dst ≠ some x) →
    foldT D j ds (putA T dst v) = putA (foldT D j ds T) dst v
  | [], _, _, _ => rfl
  | d :: ds, j, T, h => by
    simp only [foldT]
    rw [← foldT_put ds (j + 1) _ fun i e he hD => h (i + 1) e (by simpa using he) (by rwa [show j + (i + 1) = j + 1 + i by omega])]
    split
    · rename_i hj
      rw [putA_comm T (h 0 d rfl (by simpa using hj))]
    · rfl
theorem foldT_insert {D : Nat → Bool} {d : Done} : ∀ (ds : List Done) (j i : Nat) (T : List AV), ds[i]? = some d → D (j + i) = false →
    (∀ (m : Nat) (e : Done), i < m → ds[m]? = some e → D (j + m) = true → ∀ x, d.o.dst = some x → e.o.dst ≠ some x) →
    foldT (fun x => x == j + i || D x) j ds T = putA (foldT D j ds T) d.o.dst d.v
  | [], _, _, _, h, _, _ => by simp at h
  | x :: ds, j, 0, T, h, hD, hdis => by
    simp at h
    subst h
    have hD' : D j = false := hD
    simp only [foldT, Nat.add_zero, beq_self_eq_true, Bool.true_or, if_true, hD', Bool.false_eq_true, if_false]
    rw [foldT_congr (D := fun x => x == j || D x) (D' := D) ds (j + 1) _ (fun m h1 h2 => by
      have : (m == j) = false := by simp; omega
      simp only [this, Bool.false_or])]
    exact foldT_put ds (j + 1) _ (fun i e he hDi => hdis (i + 1) e (by omega) (by simpa using he) (by rwa [show j + (i + 1) = j + 1 + i by omega]))
  | x :: ds, j, i + 1, T, h, hD, hdis => by
    simp only [foldT]
    have e0 : (j == j + (i + 1) || D j) = D j := by
      have : (j == j + (i + 1)) = false := by simp
      rw [this, Bool.false_or]
    simp only [e0]
    rw [show j + (i + 1) = j + 1 + i by omega]
    exact foldT_insert ds (j + 1) i _ (by simpa using h) (by rwa [show j + 1 + i = j + (i + 1) by omega])
      (fun m e hm he hDm => hdis (m + 1) e (by omega) (by simpa using he) (by rwa [show j + (m + 1) = j + 1 + m by omega]))
theorem getElem?_putA {T U : List AV} {t : Nat} (h : T[t]? = U[t]?) (dst : Option Tmp) (v : AV) : (putA T dst v)[t]? = (putA U dst v)[t]? := by
  cases dst with
  | none => exact h
  | some d =>
    simp only [putA, List.getElem?_set]
    by_cases e : d = t
    · subst e
      have : d < T.length ↔ d < U.length := by
        constructor
        · intro e; refine Nat.lt_of_not_le fun e' => ?_
          rw [List.getElem?_eq_getElem e, List.getElem?_eq_none e'] at h; cases h
        · intro e; refine Nat.lt_of_not_le fun e' => ?_
          rw [List.getElem?_eq_getElem e, List.getElem?_eq_none e'] at h; cases h
      simp only [if_true, this]
    · simp only [e, if_false, h]
theorem getElem?_putA_ne {T : List AV} {t : Nat} {dst : Option Tmp} (v : AV) (h : dst ≠ some t) : (putA T dst v)[t]? = T[t]? := by
  cases dst with
  | none => rfl
  | some d => simp only [putA]; rw [List.getElem?_set_ne (fun e => h (by rw [e]))]
theorem foldT_agree {D D' : Nat → Bool} {t : Nat} : ∀ (ds : List Done) (j : Nat) (A B : List AV), (∀ (i : Nat) (d : Done), ds[i]? = some d → D (j + i) ≠ D' (j + i) → d.o.dst ≠ some t) → A[t]? = B[t]? →
    (foldT D j ds A)[t]? = (foldT D' j ds B)[t]?
  | [], _, _, _, _, h => h
  | d :: ds, j, A, B, hd, h => by
    simp only [foldT]
    refine foldT_agree ds (j + 1) _ _ (fun i e he hne => hd (i + 1) e (by simpa using he) (by rwa [show j + (i + 1) = j + 1 + i by omega])) ?_
    have h0 := hd 0 d rfl
    simp only [Nat.add_zero] at h0
    cases h1 : D j <;> cases h2 : D' j
    · exact h
    · simp only [Bool.false_eq_true, if_false, if_true]
      rw [getElem?_putA_ne _ (h0 (by rw [h1, h2]; decide)), h]
    · simp only [Bool.false_eq_true, if_false, if_true]
      rw [getElem?_putA_ne _ (h0 (by rw [h1, h2]; decide)), h]
    · exact getElem?_putA h _ _
theorem foldT_none {D : Nat → Bool} : ∀ (ds : List Done) (j : Nat) (T : List AV), (∀ m, j ≤ m → D m = false) → foldT D j ds T = T
  | [], _, _, _ => rfl
  | d :: ds, j, T, h => by
    simp only [foldT, h j (Nat.le_refl _), Bool.false_eq_true, if_false]
    exact foldT_none ds (j + 1) T fun m hm => h m (by omega)
theorem foldT_take : ∀ (ds : List Done) (i j : Nat) (T : List AV), foldT (fun _ => true) j (ds.take i) T = foldT (fun x => decide (x < j + i)) j ds T
  | [], i, j, T => by simp [foldT]
  | d :: ds, 0, j, T => by
    simp only [List.take_zero, foldT.eq_1]
    exact (foldT_none (d :: ds) j T fun m hm => by simp; omega).symm
  | d :: ds, i + 1, j, T => by
    have e1 : decide (j < j + (i + 1)) = true := by simp
    simp only [List.take_succ_cons, foldT, if_true, e1]
    rw [foldT_take ds i (j + 1), show j + 1 + i = j + (i + 1) by omega]
theorem maskR_congr {lim : Nat} {p q : Nat → Done → Bool} : ∀ (ds : List Done) (j : Nat) (A : AHeap), (∀ (i : Nat) (d : Done), ds[i]? = some d → p (j + i) d = q (j + i) d) → maskR lim p j ds A = maskR lim q j ds A
  | [], _, _, _ => rfl
  | d :: ds, j, A, h => by
    simp only [maskR]
    rw [show p j d = q j d from h 0 d rfl]
    exact maskR_congr ds (j + 1) _ fun i e he => by
      have := h (i + 1) e (by simpa using he)
      rwa [show j + (i + 1) = j + 1 + i by omega] at this
theorem maskR_none {lim : Nat} {p : Nat → Done → Bool} : ∀ (ds : List Done) (j : Nat) (A : AHeap), (∀ (i : Nat) (d : Done), ds[i]? = some d → p (j + i) d = false) → maskR lim p j ds A = A
  | [], _, _, _ => rfl
  | d :: ds, j, A, h => by
    simp only [maskR]
    rw [show p j d = false from h 0 d rfl]
    exact maskR_none ds (j + 1) _ fun i e he => by
      have := h (i + 1) e (by simpa using he)
      rwa [show j + (i + 1) = j + 1 + i by omega] at this
theorem maskR_take {lim : Nat} {p : Nat → Done → Bool} : ∀ (ds : List Done) (L j : Nat) (A : AHeap), maskR lim p j (ds.take L) A = maskR lim (fun x d => p x d && decide (x < j + L)) j ds A
  | [], L, j, A => by simp [maskR]
  | d :: ds, 0, j, A => by
    simp only [List.take_zero, maskR]
    refine (maskR_none (d :: ds) j A fun i e he => ?_).symm
    have : ¬ j + i < j + 0 := by omega
    simp
  | d :: ds, L + 1, j, A => by
    simp only [List.take_succ_cons, maskR]
    have : decide (j < j + (L + 1)) = true := by simp
    simp only [this, Bool.and_true]
    rw [maskR_take ds L (j + 1)]
    refine maskR_congr _ _ _ fun i e he => ?_
    rw [show j + 1 + L = j + (L + 1) by omega]
theorem mask_le {lim : Nat} {p : Nat → Done → Bool} {D : Nat → Bool} : ∀ (ds : List Done) (j a n : Nat) (A B : AHeap), Ch a ds n → (∀ (i : Nat) (d : Done), ds[i]? = some d → p (j + i) d = true → D (j + i) = true) →
    (∀ (i : Nat) (d : Done), ds[i]? = some d → D (j + i) = true → p (j + i) d = false → d.wr = false) → (∀ k o, A.get k = some o → B.get k = some o ∧ k < a ∧ k < lim) →
    ∀ k o, (maskR lim p j ds A).get k = some o → (foldG D j ds B).get k = some o
  | [], _, _, _, _, _, _, _, _, h => fun k o e => (h k o e).1
  | d :: ds, j, a, n, A, B, hc, h1, h2, h => by
    obtain ⟨rfl, ok, hc'⟩ := hc
    simp only [maskR, foldG]
    refine mask_le ds (j + 1) d.hi n _ _ hc' (fun i e he hp => ?_) (fun i e he hD hp => ?_) ?_
    · have := h1 (i + 1) e (by simpa using he) (by rwa [show j + (i + 1) = j + 1 + i by omega])
      rwa [show j + (i + 1) = j + 1 + i by omega] at this
    · exact h2 (i + 1) e (by simpa using he) (by rwa [show j + (i + 1) = j + 1 + i by omega]) (by rwa [show j + (i + 1) = j + 1 + i by omega])
    · obtain ⟨g, hg⟩ := ok.val
      have hle := ok.le
      cases hp : p j d with
      | true =>
        have hD := h1 0 d rfl (by simpa using hp)
        simp only [Nat.add_zero] at hD
        simp only [hD, if_true]
        intro k o hk
        rw [get_putKV k _ A hg] at hk
        rw [get_putAll k _ B hg]
        by_cases hkey : k ∈ d.kv.map (·.1)
        · rw [if_pos hkey]
          split at hk
          · rename_i hh
            exact ⟨(clip_some hk).1, ok.key k hkey, hh.1⟩
          · rename_i hh
            exact (hh ⟨(h k o hk).2.2, hkey⟩).elim
        · rw [if_neg (fun e => hkey e.2)] at hk
          rw [if_neg hkey]
          obtain ⟨a1, a2, a3⟩ := h k o hk
          exact ⟨a1, by omega, a3⟩
      | false =>
        simp only [Bool.false_eq_true, if_false]
        cases hD : D j with
        | false =>
          simp only [Bool.false_eq_true, if_false]
          intro k o hk
          obtain ⟨a1, a2, a3⟩ := h k o hk
          exact ⟨a1, by omega, a3⟩
        | true =>
          have hw := h2 0 d rfl (by simpa using hD) (by simpa using hp)
          simp only [if_true]
          intro k o hk
          obtain ⟨a1, a2, a3⟩ := h k o hk
          rw [get_putAll k _ B hg, if_neg (fun e => by have := ok.new hw k e; omega)]
          exact ⟨a1, by omega, a3⟩
end Go.Am
end

section
namespace Go.Am
section
variable (P : Program) (E : Env) (call : CallF) (ops : Array Oper)
/-- Over this heap an operation leaves what it left. -/
def Ev (M : AHeap) (d : Done) : Prop := ∃ H', stepA P E call ops d.T (atN M d.lo) d.o = some (d.v, H') ∧ H'.next = d.hi ∧ keep d.lo d.hi H' = d.kv
structure Good (H : AHeap) (T0 : List AV) (ds : List Done) (T : List AV) (n : Nat) : Prop where
  ch : Ch H.next ds n
  row : T = foldT (fun _ => true) 0 ds T0
  op : ∀ (i : Nat) (d : Done), ds[i]? = some d → ops[i]? = some d.o
  anc : ∀ (i : Nat) (d : Done), ds[i]? = some d → ancOf (ds.take i) d.o.after.toList 0 = some d.anc
  old : ∀ (i : Nat) (d : Done), ds[i]? = some d → d.T = foldT (fun _ => true) 0 (ds.take i) T0
  apart : ∀ (i j : Nat) (d e : Done), j < i → ds[i]? = some d → ds[j]? = some e → d.anc.testBit j = true ∨ d.o.apart ops e.o = true
  ev : ∀ (i : Nat) (d : Done), ds[i]? = some d → Ev P E call ops (maskR d.lo (fun j _ => d.anc.testBit j) 0 (ds.take i) H) d
  wrs : ∀ (i m : Nat) (d e : Done), ds[i]? = some d → ds[m]? = some e → e.wr = true → m ≠ i → d.anc.testBit m = false → (i < m → e.anc.testBit i = false) →
    d.wr = false ∧ Ev P E call ops (maskR d.lo (fun x f => d.anc.testBit x || (f.wr && decide (x ≤ m))) 0 (ds.take (max i (m + 1))) H) d ∧ (i < m → ∀ k ∈ e.kv.map (·.1), k < d.lo ∨ d.hi ≤ k)
end
section
variable {P : Program} {E : Env} {call : CallF} {ops : Array Oper}
theorem againD_ev {M : AHeap} {d : Done} (h : againD P E call ops M d = true) : Ev P E call ops M d := by
  unfold againD at h
  split at h
  · rename_i v H' h1
    simp only [Bool.and_eq_true, beq_iff_eq] at h
    obtain ⟨⟨⟨a, b⟩, c⟩, e⟩ := h
    rw [← sameA_eq _ _ a] at h1
    exact ⟨H', h1, b, (sameKV_eq e).symm⟩
  · cases h
theorem snoc_get {α : Type} {ds : List α} {d x : α} {i : Nat} (h : (ds ++ [d])[i]? = some x) : (i < ds.length ∧ ds[i]? = some x) ∨ (i = ds.length ∧ x = d) := by
  rw [List.getElem?_append] at h
  split at h
  · rename_i hl; exact .inl ⟨hl, h⟩
  · rename_i hl
    right
    by_cases e : i = ds.length
    · subst e; simp at h; exact ⟨rfl, h.symm⟩
    · rw [List.getElem?_eq_none (by simp; omega)] at h; cases h
theorem foldT_snoc {D : Nat → Bool} : ∀ (ds : List Done) (j : Nat) (d : Done) (T : List AV), foldT D j (ds ++ [d]) T = (if D (j + ds.length) then putA (foldT D j ds T) d.o.dst d.v else foldT D j ds T)
  | [], j, d, T => by simp [foldT]
  | e :: ds, j, d, T => by
    simp only [List.cons_append, foldT, List.length_cons]
    rw [foldT_snoc ds, show j + 1 + ds.length = j + (ds.length + 1) by omega]
theorem Good.snoc {H : AHeap} {T0 : List AV} {ds : List Done} {T : List AV} {n : Nat} (hw : Wf H) (hc : CallTrs call) (G : Good P E call ops H T0 ds T n) {o : Oper} (ho : ops[ds.length]? = some o) {anc : Nat}
    (hanc : ancOf ds o.after.toList 0 = some anc) (hap : allI (fun j e => anc.testBit j || o.apart ops e.o) 0 ds = true) {v : AV} {H' : AHeap}
    (hst : stepA P E call ops T (atN (maskR n (fun j _ => anc.testBit j) 0 ds H) n) o = some (v, H')) {d : Done}
    (hd : d = ⟨o, anc, T, v, n, H'.next, !(H'.log.all fun k => decide (n ≤ k)), keep n H'.next H'⟩) (hchk : checkD P E call ops H ds d = true) :
    Good P E call ops H T0 (ds ++ [d]) (putA T o.dst v) H'.next := by
  have hle := G.ch.le
  have hwm := mask_wf hw hle (fun j _ => anc.testBit j) 0 ds
  obtain ⟨ts, e1, e2, e3, _⟩ := stepA_trs hc hwm hst
  have hn : n ≤ H'.next := by rw [e1]; exact e2.1
  have hlog : ∀ k ∈ H'.log, k < H'.next := by
    intro k hk
    rw [e1, log_aps] at hk
    rcases hk with hk | ⟨x, hk⟩
    · simp [atN] at hk
    · rw [e1]; exact (e2.2 _ _ _ hk).2
  have hkeys : ∀ k ∈ (keep n H'.next H').map (·.1), k < H'.next := by
    intro k hk
    rcases keep_key.1 hk with hk | hk
    · exact hlog k hk.1
    · exact hk.2.1
  have okd : Ok d := by
    subst hd
    refine ⟨hn, ⟨H'.get, keep_val⟩, hkeys, ?_, ?_⟩
    · intro hwr k hk
      simp only [Bool.not_eq_false'] at hwr
      rcases keep_key.1 hk with hk | hk
      · exact of_decide_eq_true (List.all_eq_true.1 hwr k hk.1)
      · exact hk.1
    · intro k x hx p hp
      have := keep_val _ hx
      exact e3.2 k x this.symm p hp
  have hlo : d.lo = n := by rw [hd]
  have hhi : d.hi = H'.next := by rw [hd]
  have hdo : d.o = o := by rw [hd]
  have hdv : d.v = v := by rw [hd]
  have hdanc : d.anc = anc := by rw [hd]
  have hdT : d.T = T := by rw [hd]
  refine ⟨?_, ?_, ?_, ?_, ?_, ?_, ?_, ?_⟩
  · rw [← hhi]; exact Ch.snoc (by rw [hlo]; exact G.ch) okd
  · rw [foldT_snoc, if_pos rfl, ← G.row, hdo, hdv]
  · intro i x hx
    rcases snoc_get hx with ⟨_, h⟩ | ⟨rfl, rfl⟩
    · exact G.op i x h
    · rw [hdo]; exact ho
  · intro i x hx
    rcases snoc_get hx with ⟨hl, h⟩ | ⟨rfl, rfl⟩
    · rw [List.take_append_of_le_length (by omega)]; exact G.anc i x h
    · rw [List.take_append_of_le_length (Nat.le_refl _), List.take_length, hdo, hdanc]; exact hanc
  · intro i x hx
    rcases snoc_get hx with ⟨hl, h⟩ | ⟨rfl, rfl⟩
    · rw [List.take_append_of_le_length (by omega)]; exact G.old i x h
    · rw [List.take_append_of_le_length (Nat.le_refl _), List.take_length, hdT]; exact G.row
  · intro i j x y hij hx hy
    rcases snoc_get hx with ⟨hl, h⟩ | ⟨rfl, rfl⟩
    · rcases snoc_get hy with ⟨hl', h'⟩ | ⟨rfl, rfl⟩
      · exact G.apart i j x y hij h h'
      · omega
    · rcases snoc_get hy with ⟨hl', h'⟩ | ⟨rfl, rfl⟩
      · have := allI_spec hap j y h'
        simp only [Nat.zero_add, Bool.or_eq_true] at this
        rw [hdanc, hdo]; exact this
      · omega
  · intro i x hx
    rcases snoc_get hx with ⟨hl, h⟩ | ⟨rfl, rfl⟩
    · rw [List.take_append_of_le_length (by omega)]; exact G.ev i x h
    · rw [List.take_append_of_le_length (Nat.le_refl _), List.take_length, hlo, hdanc]
      refine ⟨H', ?_, hhi.symm, ?_⟩
      · rw [hdT, hlo, hdo, hdv]; exact hst
      · rw [hlo, hhi, hd]
  · intro i m x y hx hy hyw hmi hanx hany
    rcases snoc_get hx with ⟨hl, h⟩ | ⟨rfl, rfl⟩
    · rcases snoc_get hy with ⟨hl', h'⟩ | ⟨rfl, rfl⟩
      · rw [List.take_append_of_le_length (by omega)]; exact G.wrs i m x y h h' hyw hmi hanx hany
      · have hany' := hany hl
        unfold checkD at hchk
        rw [if_pos hyw] at hchk
        have := allI_spec hchk i x h
        simp only [Nat.zero_add, Bool.or_eq_true, Bool.and_eq_true, Bool.not_eq_true', hany', Bool.false_eq_true, false_or] at this
        obtain ⟨⟨a1, a2⟩, a3⟩ := this
        refine ⟨a1, ?_, fun _ k hk => ?_⟩
        · have hmax : max i (ds.length + 1) = ds.length + 1 := by omega
          have htake : (ds ++ [y]).take (ds.length + 1) = ds ++ [y] := List.take_of_length_le (by simp)
          rw [hmax, htake]
          rw [maskR_congr (p := fun x_1 f => x.anc.testBit x_1 || (f.wr && decide (x_1 ≤ ds.length))) (q := fun x_1 f => x.anc.testBit x_1 || f.wr)]
          · exact againD_ev a3
          · intro i' e' he'
            have hi' : i' ≤ ds.length := by
              rcases snoc_get he' with ⟨q, _⟩ | ⟨q, _⟩ <;> omega
            simp [hi']
        · simp only [List.mem_map] at hk
          obtain ⟨z, hz, rfl⟩ := hk
          have := List.all_eq_true.1 a2 z hz
          simpa using this
    · rcases snoc_get hy with ⟨hl', h'⟩ | ⟨rfl, rfl⟩
      · cases hxw : x.wr with
        | true =>
          unfold checkD at hchk
          rw [if_pos hxw] at hchk
          have := allI_spec hchk m y h'
          simp only [Nat.zero_add, Bool.or_eq_true, Bool.and_eq_true, Bool.not_eq_true', hanx, hyw, Bool.false_eq_true, false_or, Bool.true_eq_false, false_and] at this
        | false =>
          unfold checkD at hchk
          rw [if_neg (by rw [hxw]; exact Bool.false_ne_true)] at hchk
          have := allI_spec hchk m y h'
          simp only [Nat.zero_add, Bool.or_eq_true, Bool.not_eq_true', hanx, hyw, Bool.false_eq_true, Bool.true_eq_false, false_or] at this
          refine ⟨rfl, ?_, fun q => by omega⟩
          have hmax : max ds.length (m + 1) = ds.length := by omega
          rw [hmax, List.take_append_of_le_length (Nat.le_refl _), List.take_length]
          exact againD_ev this
      · exact (hmi rfl).elim
theorem log_aps_eq : ∀ (ts : List Tr) {A B : AHeap}, A.log = B.log → (aps ts A).log = (aps ts B).log
  | [], _, _, h => h
  | t :: ts, A, B, h => log_aps_eq ts (by cases t <;> simp only [Tr.ap, h])
/-- A step over a mask, and over the same mask of a heap with more in it. -/
theorem step_both (hc : CallTrs call) {M H : AHeap} (hw : Wf M) (hs : ∀ k o, M.get k = some o → H.get k = some o) {lim : Nat} (hl : M.next ≤ lim) {p : Nat → Done → Bool} {j : Nat} {ds : List Done} {T : List AV} {o : Oper} {v : AV} {M1 : AHeap}
    (h : stepA P E call ops T (atN (maskR lim p j ds M) lim) o = some (v, M1)) (hf : ∀ k, lim ≤ k → k < M1.next → H.get k = none) :
    ∃ H1, stepA P E call ops T (atN (maskR lim p j ds H) lim) o = some (v, H1) ∧ H1.next = M1.next ∧ H1.log = M1.log ∧ keep lim M1.next H1 = keep lim M1.next M1 := by
  have hwm := mask_wf hw hl p j ds
  obtain ⟨ts, e1, e2, e3, e4⟩ := stepA_trs hc hwm h
  have hsub : Sub (atN (maskR lim p j ds M) lim) (atN (maskR lim p j ds H) lim) := ⟨maskR_sub ds j hs, rfl, rfl⟩
  have hfr : Free (atN (maskR lim p j ds H) lim) (atN (maskR lim p j ds M) lim).next M1.next := by
    intro k h1 h2
    have h1' : lim ≤ k := h1
    show (maskR lim p j ds H).get k = none
    rw [maskR_above ds j h1']
    exact hf k h1' h2
  refine ⟨_, e4 _ hsub hfr, ?_, ?_, ?_⟩
  · rw [e1]; exact next_aps_eq ts rfl
  · rw [e1]; exact log_aps_eq ts rfl
  · have hget : ∀ k, (k ∈ M1.log ∨ (lim ≤ k ∧ k < M1.next)) → (aps ts (atN (maskR lim p j ds H) lim)).get k = M1.get k := by
      intro k hk
      rw [e1]
      refine aps_touched ts _ _ k ?_
      rcases hk with hk | ⟨h1, h2⟩
      · rw [e1, log_aps] at hk
        rcases hk with hk | ⟨x, hx⟩
        · simp [atN] at hk
        · exact .inr ⟨x, true, hx⟩
      · left
        rw [hfr k h1 h2, hwm.1 k h1]
    have hlog : (aps ts (atN (maskR lim p j ds H) lim)).log = M1.log := by rw [e1]; exact log_aps_eq ts rfl
    unfold keep
    rw [hlog]
    rw [List.filter_congr (l := List.range' lim (M1.next - lim)) (q := fun k => (M1.get k).isSome) fun k hk => by
      have := List.mem_range'_1.1 hk
      rw [hget k (.inr ⟨this.1, by omega⟩)]]
    refine List.map_congr_left fun k hk => ?_
    rw [hget k]
    rcases List.mem_append.1 hk with hk | hk
    · exact .inl (List.mem_filter.1 hk).1
    · have := List.mem_range'_1.1 (List.mem_filter.1 hk).1
      exact .inr ⟨this.1, by omega⟩
theorem againD_sub (hc : CallTrs call) {M H : AHeap} (hw : Wf M) (hs : ∀ k o, M.get k = some o → H.get k = some o) {d : Done} (hl : M.next ≤ d.lo) {p : Nat → Done → Bool} {j : Nat} {ds : List Done}
    (hf : ∀ k, d.lo ≤ k → k < d.hi → H.get k = none) (h : againD P E call ops (maskR d.lo p j ds M) d = true) : againD P E call ops (maskR d.lo p j ds H) d = true := by
  unfold againD at h ⊢
  split at h
  · rename_i v M1 h1
    simp only [Bool.and_eq_true, beq_iff_eq] at h
    obtain ⟨⟨⟨a, b⟩, c⟩, e⟩ := h
    obtain ⟨H1, g1, g2, g3, g4⟩ := step_both hc hw hs hl h1 (by rw [b]; exact hf)
    rw [g1]
    simp only [Bool.and_eq_true, beq_iff_eq]
    rw [b] at g4
    exact ⟨⟨⟨a, by rw [g2, b]⟩, by rw [g3]; exact c⟩, by rw [g4]; exact e⟩
  · cases h
theorem allI_mono {p q : Nat → Done → Bool} : ∀ {ds : List Done} {j : Nat}, allI p j ds = true → (∀ (i : Nat) (d : Done), ds[i]? = some d → p (j + i) d = true → q (j + i) d = true) → allI q j ds = true
  | [], j, _, _ => rfl
  | x :: ds, j, h, hpq => by
    simp only [allI, Bool.and_eq_true] at h ⊢
    exact ⟨hpq 0 x rfl h.1, allI_mono h.2 fun i d e hp => by
      have := hpq (i + 1) d (by simpa using e)
      rw [show j + (i + 1) = j + 1 + i by omega] at this
      exact this hp⟩
theorem checkD_sub (hc : CallTrs call) {M H : AHeap} (hw : Wf M) (hs : ∀ k o, M.get k = some o → H.get k = some o) {ds : List Done} {d : Done} {n : Nat} (hch : Ch M.next ds d.lo) (hd : d.lo ≤ d.hi) (hn : d.hi ≤ n)
    (hf : Free H M.next n) (h : checkD P E call ops M ds d = true) : checkD P E call ops H ds d = true := by
  unfold checkD at h ⊢
  split
  · rename_i hwr
    rw [if_pos hwr] at h
    refine allI_mono h fun i e he hp => ?_
    simp only [Bool.or_eq_true, Bool.and_eq_true] at hp ⊢
    rcases hp with hp | ⟨a, b⟩
    · exact .inl hp
    · obtain ⟨k1, k2, k3⟩ := hch.at i e he
      exact .inr ⟨a, againD_sub hc hw hs k2 (fun k h1 h2 => hf k (by omega) (by omega)) b⟩
  · rename_i hwr
    rw [if_neg hwr] at h
    refine allI_mono h fun i e he hp => ?_
    simp only [Bool.or_eq_true] at hp ⊢
    rcases hp with hp | b
    · exact .inl hp
    · have := hch.le
      exact .inr (againD_sub hc hw hs hch.le (fun k h1 h2 => hf k (by omega) (by omega)) b)
theorem drawA_good (hc : CallTrs call) {H : AHeap} (hw : Wf H) {T0 : List AV} : ∀ (l : List Oper) (ds : List Done) (T : List AV) (n : Nat) (T' : List AV) (H' : AHeap), Good P E call ops H T0 ds T n → ops.toList.drop ds.length = l →
    drawA P E call ops l ds T H n = some (T', H') → ∃ dsF nF, Good P E call ops H T0 dsF T' nF ∧ dsF.length = ops.size ∧ H' = { allR dsF H with next := nF } ∧ n ≤ nF ∧
      ∀ K : AHeap, (∀ k o, H.get k = some o → K.get k = some o) → Free K H.next nF → drawA P E call ops l ds T K n = some (T', { allR dsF K with next := nF })
  | [], ds, T, n, T', H', G, hl, h => by
    simp only [drawA] at h
    cases h
    refine ⟨ds, n, G, ?_, rfl, Nat.le_refl _, fun K _ _ => by simp only [drawA]⟩
    have h1 : ops.size ≤ ds.length := by
      have := congrArg List.length hl
      simp only [List.length_drop, Array.length_toList, List.length_nil] at this
      omega
    cases hds : ds.length with
    | zero => omega
    | succ m =>
      have := G.op m (ds[m]'(by omega)) (List.getElem?_eq_getElem (by omega))
      have := Array.getElem?_eq_some_iff.1 this
      obtain ⟨q, _⟩ := this
      omega
  | o :: l, ds, T, n, T', H', G, hl, h => by
    have ho : ops[ds.length]? = some o := by
      have : (ops.toList.drop ds.length)[0]? = some o := by rw [hl]; rfl
      rw [List.getElem?_drop] at this
      simpa using this
    have hdr : ∀ d : Done, ops.toList.drop (ds ++ [d]).length = l := by
      intro d
      have := congrArg List.tail hl
      rw [List.tail_drop] at this
      simpa using this
    simp only [drawA] at h
    split at h
    · rename_i anc hanc
      split at h
      · rename_i hap
        split at h
        · rename_i v H1 hst
          split at h
          · rename_i hchk
            have G' := Good.snoc hw hc G ho hanc hap hst rfl hchk
            obtain ⟨dsF, nF, g1, g2, g3, g4, g5⟩ := drawA_good hc hw l _ _ _ _ _ G' (hdr _) h
            have hn1 : n ≤ H1.next := by
              obtain ⟨ts, e1, e2, e3, _⟩ := stepA_trs hc (mask_wf hw G.ch.le _ 0 ds) hst
              rw [e1]; exact e2.1
            have hle := G.ch.le
            refine ⟨dsF, nF, g1, g2, g3, Nat.le_trans hn1 g4, fun K hK hfK => ?_⟩
            obtain ⟨K1, k1, k2, k3, k4⟩ := step_both hc hw hK hle hst (fun k h1 h2 => hfK k (by omega) (by omega))
            have hchk' := checkD_sub hc hw hK (d := ⟨o, anc, T, v, n, H1.next, !(H1.log.all fun k => decide (n ≤ k)), keep n H1.next H1⟩) G.ch hn1 g4 hfK hchk
            have := g5 K hK hfK
            simp only [drawA, hanc, hap, if_true, k1, k2, k3, k4, hchk']
            exact this
          · cases h
        · cases h
      · cases h
    · cases h
end
end Go.Am
end

section
namespace Go.Am
def trsOf (d : Done) : List Tr := d.kv.map fun x => .put x.1 x.2 (decide (x.1 < d.lo))
theorem aps_kv {lo : Nat} : ∀ (kv : List (Nat × Option AObj)) (H : AHeap), aps (kv.map fun x => .put x.1 x.2 (decide (x.1 < lo))) H = putAll lo kv H
  | [], _ => rfl
  | x :: l, H => by
    simp only [List.map_cons, aps, putAll, aps_kv l, Tr.ap, decide_eq_true_eq]
theorem aps_all : ∀ (ds : List Done) (H : AHeap), aps (ds.flatMap trsOf) H = allR ds H
  | [], _ => rfl
  | d :: ds, H => by
    rw [List.flatMap_cons, aps_append, aps_all ds, allR]
    rw [show aps (trsOf d) H = putAll d.lo d.kv H from aps_kv d.kv H]
theorem allR_pre {n : Nat} : ∀ (ds : List Done) (a : Nat) (H : AHeap), Ch a ds n → (∀ k o, H.get k = some o → ∀ p ∈ preOf o, p < a) → ∀ k o, (allR ds H).get k = some o → ∀ p ∈ preOf o, p < n
  | [], a, H, hc, h => by simp only [Ch] at hc; subst hc; exact h
  | d :: ds, a, H, hc, h => by
    obtain ⟨rfl, ok, hc'⟩ := hc
    simp only [allR]
    refine allR_pre ds d.hi _ hc' ?_
    obtain ⟨g, hg⟩ := ok.val
    intro k o hk p hp
    rw [get_putAll k _ H hg] at hk
    split at hk
    · rename_i hkey
      obtain ⟨x, hx, rfl⟩ := List.mem_map.1 hkey
      have : (x.1, some o) ∈ d.kv := by
        have := hg x hx
        rw [hk] at this
        rw [← this]; exact hx
      exact ok.pre _ _ this p hp
    · exact Nat.lt_of_lt_of_le (h k o hk p hp) ok.le
section
variable {P : Program} {E : Env} {call : CallF}
theorem Good.nil {ops : Array Oper} (H : AHeap) (T : List AV) : Good P E call ops H T [] T H.next := by
  refine ⟨rfl, rfl, ?_, ?_, ?_, ?_, ?_, ?_⟩ <;> intros <;> simp_all
theorem drawA_trs (hc : CallTrs call) {ops : Array Oper} {T : List AV} {M : AHeap} {T' : List AV} {M' : AHeap} (hw : Wf M) (h : drawA P E call ops ops.toList [] T M M.next = some (T', M')) :
    ∃ ts, M' = aps ts M ∧ Tame M ts ∧ Wf M' ∧ ∀ H, Sub M H → Free H M.next M'.next → drawA P E call ops ops.toList [] T H H.next = some (T', aps ts H) := by
  obtain ⟨dsF, nF, g1, g2, g3, g4, g5⟩ := drawA_good hc hw ops.toList [] T M.next T' M' (Good.nil M T) rfl h
  have haps : ∀ H, aps (dsF.flatMap trsOf ++ [.next nF]) H = { allR dsF H with next := nF } := fun H => by
    rw [aps_append, aps_all]; rfl
  refine ⟨dsF.flatMap trsOf ++ [.next nF], ?_, ?_, ?_, ?_⟩
  · rw [haps, g3]
  · refine ⟨by rw [haps]; exact g4, ?_⟩
    rw [haps]
    intro k o lg hm
    rcases List.mem_append.1 hm with hm | hm
    · obtain ⟨d, hd, hm⟩ := List.mem_flatMap.1 hm
      obtain ⟨i, hi⟩ := List.mem_iff_getElem?.1 hd
      obtain ⟨ok, k1, k2⟩ := g1.ch.at i d hi
      obtain ⟨x, hx, e⟩ := List.mem_map.1 hm
      cases e
      refine ⟨fun e => ?_, Nat.lt_of_lt_of_le (ok.key _ (List.mem_map_of_mem hx)) k2⟩
      have := of_decide_eq_false e
      omega
    · simp at hm
  · rw [g3]
    refine ⟨fun k hk => ?_, ?_⟩
    · have hk' : nF ≤ k := hk
      show (allR dsF M).get k = none
      rw [← aps_all, aps_untouched, hw.1 k (by omega)]
      intro o lg hm
      obtain ⟨d, hd, hm⟩ := List.mem_flatMap.1 hm
      obtain ⟨i, hi⟩ := List.mem_iff_getElem?.1 hd
      obtain ⟨ok, k1, k2⟩ := g1.ch.at i d hi
      obtain ⟨x, hx, e⟩ := List.mem_map.1 hm
      cases e
      have := ok.key _ (List.mem_map_of_mem hx)
      omega
    · exact allR_pre dsF M.next M g1.ch hw.2
  · intro H hs hf
    rw [haps, hs.next]
    rw [g3] at hf
    exact g5 H hs.get hf
theorem resultsA_sub {M H : AHeap} (hs : Sub M H) {fn : Func} {T : List AV} {v : AV} (h : resultsA P E M fn T = some v) : resultsA P E H fn T = some v := by
  unfold resultsA at h ⊢
  simp only [Option.bind_eq_bind, Option.bind_eq_some_iff] at h ⊢
  obtain ⟨vs, hvs, h⟩ := h
  refine ⟨vs, ?_, h⟩
  revert hvs
  generalize fn.results.toList = l
  clear h
  intro hvs
  induction l generalizing vs with
  | nil => exact hvs
  | cons x l ih =>
    simp only [List.mapM_cons, Option.bind_eq_bind, Option.bind_eq_some_iff] at hvs ⊢
    obtain ⟨a, ha, as, has, hvs⟩ := hvs
    refine ⟨a, ?_, as, ih _ has, hvs⟩
    cases x with
    | tmp t => exact ha
    | cell a t =>
      simp only at ha ⊢
      split at ha
      · rename_i o i hh
        exact loadVarA_sub hs ha
      · cases ha
theorem codeA_trs (hc : CallTrs call) : ∀ (n : Nat) (c : Code) (T : List AV) (M : AHeap) (ex : AExit) (T' : List AV) (M' : AHeap), Wf M → codeA P E call n c T M = some (ex, T', M') →
    ∃ ts, M' = aps ts M ∧ Tame M ts ∧ Wf M' ∧ ∀ H, Sub M H → Free H M.next M'.next → codeA P E call n c T H = some (ex, T', aps ts H)
  | 0, c, T, M, ex, T', M', hw, h => by simp [codeA] at h
  | n + 1, c, T, M, ex, T', M', hw, h => by
    unfold codeA at h
    split at h
    case h_1 => cases h; exact ⟨[], rfl, Tame.nil _, hw, fun H _ _ => by simp only [codeA]; rfl⟩
    case h_2 => cases h; exact ⟨[], rfl, Tame.nil _, hw, fun H _ _ => by simp only [codeA]; rfl⟩
    case h_3 => cases h; exact ⟨[], rfl, Tame.nil _, hw, fun H _ _ => by simp only [codeA]; rfl⟩
    case h_4 id => cases h; exact ⟨[], rfl, Tame.nil _, hw, fun H _ _ => by simp only [codeA]; rfl⟩
    case h_5 id ops =>
      simp only [Option.map_eq_some_iff] at h
      obtain ⟨⟨T1, H1⟩, h1, h⟩ := h
      cases h
      obtain ⟨ts, g1, g2, g3, g4⟩ := opsA_trs hc _ _ _ _ _ hw h1
      exact ⟨ts, g1, g2, g3, fun H hs hf => by simp only [codeA, g4 H hs hf, Option.map_some]⟩
    case h_6 id ops =>
      simp only [Option.map_eq_some_iff] at h
      obtain ⟨⟨T1, H1⟩, h1, h⟩ := h
      cases h
      obtain ⟨ts, g1, g2, g3, g4⟩ := drawA_trs hc hw h1
      exact ⟨ts, g1, g2, g3, fun H hs hf => by simp only [codeA, g4 H hs hf, Option.map_some]⟩
    case h_7 x y =>
      split at h
      · rename_i T1 M1 h1
        obtain ⟨ts, g1, g2, g3, g4⟩ := codeA_trs hc n _ _ _ _ _ _ hw h1
        obtain ⟨us, k1, k2, k3, k4⟩ := codeA_trs hc n _ _ _ _ _ _ g3 h
        subst g1
        have hn1 : M.next ≤ (aps ts M).next := g2.1
        have hn2 : (aps ts M).next ≤ (aps us (aps ts M)).next := k2.1
        subst k1
        refine ⟨ts ++ us, (aps_append ..).symm, g2.append k2, k3, fun H hs hf => ?_⟩
        have e1 := g4 H hs (hf.sub hw (Nat.le_refl _) hn2)
        have e2 := k4 (aps ts H) (hs.aps ts) (g2.free (Nat.le_refl _) (hf.sub hw hn1 (Nat.le_refl _)))
        simp only [codeA, e1, e2, aps_append]
      · rename_i hne
        obtain ⟨ts, g1, g2, g3, g4⟩ := codeA_trs hc n _ _ _ _ _ _ hw h
        refine ⟨ts, g1, g2, g3, fun H hs hf => ?_⟩
        have e1 := g4 H hs hf
        simp only [codeA, e1]
        cases ex with
        | normal => exact absurd h (hne _ _)
        | _ => rfl
    case h_8 c1 x y =>
      split at h
      · rename_i t ht
        obtain ⟨ts, g1, g2, g3, g4⟩ := codeA_trs hc n _ _ _ _ _ _ hw h
        exact ⟨ts, g1, g2, g3, fun H hs hf => by simp only [codeA, ht]; exact g4 H hs hf⟩
      · cases h
    case h_9 id x =>
      split at h
      · rename_i id' T1 M1 h1
        obtain ⟨ts, g1, g2, g3, g4⟩ := codeA_trs hc n _ _ _ _ _ _ hw h1
        split at h
        · rename_i hid
          cases h
          exact ⟨ts, g1, g2, g3, fun H hs hf => by simp only [codeA, g4 H hs hf, hid, if_true]⟩
        · rename_i hid
          cases h
          exact ⟨ts, g1, g2, g3, fun H hs hf => by simp only [codeA, g4 H hs hf, hid, if_false]⟩
      · rename_i hne
        obtain ⟨ts, g1, g2, g3, g4⟩ := codeA_trs hc n _ _ _ _ _ _ hw h
        refine ⟨ts, g1, g2, g3, fun H hs hf => ?_⟩
        simp only [codeA, g4 H hs hf]
        cases ex with
        | exit id' => exact absurd h (hne _ _ _)
        | _ => rfl
    case h_10 x =>
      split at h
      · rename_i T1 M1 h1
        obtain ⟨ts, g1, g2, g3, g4⟩ := codeA_trs hc n _ _ _ _ _ _ hw h1
        obtain ⟨us, k1, k2, k3, k4⟩ := codeA_trs hc n _ _ _ _ _ _ g3 h
        subst g1
        have hn1 : M.next ≤ (aps ts M).next := g2.1
        have hn2 : (aps ts M).next ≤ (aps us (aps ts M)).next := k2.1
        subst k1
        refine ⟨ts ++ us, (aps_append ..).symm, g2.append k2, k3, fun H hs hf => ?_⟩
        have e1 := g4 H hs (hf.sub hw (Nat.le_refl _) hn2)
        have e2 := k4 (aps ts H) (hs.aps ts) (g2.free (Nat.le_refl _) (hf.sub hw hn1 (Nat.le_refl _)))
        rw [codeA]
        simp only [e1, e2, aps_append]
      · rename_i hne
        obtain ⟨ts, g1, g2, g3, g4⟩ := codeA_trs hc n _ _ _ _ _ _ hw h
        refine ⟨ts, g1, g2, g3, fun H hs hf => ?_⟩
        have e1 := g4 H hs hf
        rw [codeA]
        simp only [e1]
        cases ex with
        | normal => exact absurd h (hne _ _)
        | _ => rfl
    case h_11 => cases h
end
theorem callFA_trs (P : Program) (E : Env) {ov : OvF} (hov : CallTrs (ovCall ov)) : ∀ n, CallTrs (callFA P E ov n)
  | 0 => fun f args M v M' hw h => by simp [callFA] at h
  | n + 1 => fun f args M v M' hw h => by
    have ih := callFA_trs P E hov n
    unfold callFA at h
    split at h
    · rename_i g hg
      obtain ⟨ts, g1, g2, g3, g4⟩ := hov f args M v M' hw (by unfold ovCall; rw [hg]; exact h)
      refine ⟨ts, g1, g2, g3, fun H hs hf => ?_⟩
      have := g4 H hs hf
      unfold ovCall at this
      rw [hg] at this
      simp only [callFA, hg]
      exact this
    rename_i hg
    split at h
    · rename_i fn hfn
      split at h
      · rename_i c hb
        split at h
        · rename_i T M1 hcd
          simp only [Option.map_eq_some_iff] at h
          obtain ⟨u, hr, h⟩ := h
          cases h
          obtain ⟨ts, g1, g2, g3, g4⟩ := codeA_trs ih n _ _ _ _ _ _ hw hcd
          refine ⟨ts, g1, g2, g3, fun H hs hf => ?_⟩
          have hr' := resultsA_sub (H := aps ts H) (by rw [g1]; exact hs.aps ts) hr
          simp only [callFA, hg, hfn, hb, g4 H hs hf, hr', Option.map_some]
        · rename_i T M1 hcd
          simp only [Option.map_eq_some_iff] at h
          obtain ⟨u, hr, h⟩ := h
          cases h
          obtain ⟨ts, g1, g2, g3, g4⟩ := codeA_trs ih n _ _ _ _ _ _ hw hcd
          refine ⟨ts, g1, g2, g3, fun H hs hf => ?_⟩
          have hr' := resultsA_sub (H := aps ts H) (by rw [g1]; exact hs.aps ts) hr
          simp only [callFA, hg, hfn, hb, g4 H hs hf, hr', Option.map_some]
        · cases h
      · cases h
    · cases h
end Go.Am
end

section
namespace Go.Am
section
variable {E : Env} {w0 : World} {P : Program}
theorem relL_getD {ρ : LMap} {T : List AV} {vs : Array Value} (h : relL ρ T vs.toList) (t : Nat) : rel ρ (T.getD t undefA) (vs.getD t undef) := by
  have hl := relL_length h
  simp only [Array.length_toList] at hl
  by_cases ht : t < T.length
  · obtain ⟨v, h1, h2⟩ := relL_get h t (List.getElem?_eq_getElem ht)
    have h1' : vs[t]? = some v := by simpa using h1
    rw [List.getD_eq_getElem?_getD, List.getElem?_eq_getElem ht]
    rw [Array.getD_eq_getD_getElem?, h1']
    exact h2
  · rw [List.getD_eq_getElem?_getD, List.getElem?_eq_none (by omega), Array.getD_eq_getD_getElem?, Array.getElem?_eq_none (by omega)]
    exact rel_undef
theorem eval_rel {ρ : LMap} {T : List AV} {a : Act} (h : relL ρ T a.tmps.toList) : ∀ x, rel ρ (aEval T x) (a.eval x)
  | .tmp t => relL_getD h t
  | .const v => rel_ofVal v
  | .global g => by simp only [aEval, Act.eval, rel, baseOf]; exact ⟨g, 0, rfl, rfl⟩
  | .func f => by
    simp only [aEval, Act.eval, rel]
    exact ⟨#[], #[], rfl, relL_nil.2 rfl, relL_nil.2 rfl⟩
theorem put_rel {ρ : LMap} {T : List AV} {a : Act} {dst : Option Tmp} {v : AV} {vv : Value} (h : relL ρ T a.tmps.toList) (hv : rel ρ v vv) : relL ρ (putA T dst v) (a.put dst vv).tmps.toList := by
  cases dst with
  | none => exact h
  | some d =>
    simp only [putA, Act.put, Array.toList_setIfInBounds]
    exact relL_set h d hv
theorem wanted_rel {ρ : LMap} {ops : Array Oper} {T : List AV} {tmps : Array Value} {o : Oper} {b : Bool} (h : wantedA ops T o = some b) (hr : relL ρ T tmps.toList) :
    Region.wanted o (yielded ops tmps) = b := by
  have hl := relL_length hr
  simp only [Array.length_toList] at hl
  unfold wantedA at h
  unfold Region.wanted
  split at h
  · rename_i hg; rw [hg]; cases h; rfl
  · rename_i j want hg
    rw [hg]
    simp only
    split at h
    · rename_i hd
      cases h
      simp [yielded, hd]
    · rename_i d hd
      have hy : yielded ops tmps j = (match tmps[d]? with | some (.bool b) => some b | _ => none) := by
        unfold yielded
        rw [hd]
        rfl
      rw [hy]
      split at h
      · rename_i b' hb
        cases h
        obtain ⟨v, h1, h2⟩ := relL_get hr d hb
        simp only [rel] at h2; subst h2
        rw [show tmps[d]? = some (.bool b') by simpa using h1]
        simp only
        cases b' <;> cases want <;> rfl
      · cases h
      · rename_i h1 h2
        cases h
        cases hT : T[d]? with
        | none =>
          have : tmps[d]? = none := by
            rw [Array.getElem?_eq_none_iff]
            have := List.getElem?_eq_none_iff.1 hT
            omega
          rw [this]; cases want <;> rfl
        | some x =>
          obtain ⟨v, g1, g2⟩ := relL_get hr d hT
          rw [show tmps[d]? = some v by simpa using g1]
          cases v with
          | bool bb =>
            cases x <;> simp [rel] at g2
            · subst g2; exact (h1 _ hT).elim
            · subst g2; exact (h2 _ hT).elim
          | _ => cases want <;> rfl
/-- A heap that is looked at through a part of it that has its new numbers in order. -/
structure Und (M H : AHeap) (n : Nat) : Prop where
  wf : Wf M
  sub : Sub M H
  free : Free H M.next n
theorem Und.head {M H : AHeap} {m n : Nat} (h : Und M H n) (hm : m ≤ n) : Und M H m := ⟨h.wf, h.sub, h.free.sub h.wf (Nat.le_refl _) hm⟩
theorem Und.step {M H : AHeap} {n : Nat} {ts : List Tr} (h : Und M H n) (ht : Tame M ts) (hw : Wf (aps ts M)) : Und (aps ts M) (aps ts H) n :=
  ⟨hw, h.sub.aps ts, ht.free (Nat.le_refl _) (h.free.sub h.wf ht.1 (Nat.le_refl _))⟩
theorem Und.le {M H : AHeap} {n : Nat} {ts : List Tr} (h : Und M H n) (ht : Tame M ts) : H.next ≤ (aps ts H).next := by
  rw [next_aps_eq ts h.sub.next, h.sub.next]; exact ht.1
/-- What a call of the abstract machine's says of the model's. -/
def CallOk (P : Program) (E : Env) (w0 : World) (call : CallF) : Prop := CallTrs call ∧ ∀ f args M H v M' H', call f args M = some (v, M') → Und M H M'.next → call f args H = some (v, H') →
  ∀ (w : World) (ρ : LMap) (vargs : Array Value), Rep E w0 H w ρ → relL ρ args vargs.toList → Fresh ρ H H' →
    Calls P f vargs w fun e w' => ∃ u ρ', e = .returned u ∧ Ext ρ ρ' ∧ (∀ k, ¬ (H.next ≤ k ∧ k < H'.next) → ρ' k = ρ k) ∧ rel ρ' v u ∧ Rep E w0 H' w' ρ'
variable {call : CallF}
theorem stepA_sound (hc : CallOk P E w0 call) {ops : Array Oper} {T : List AV} {M H : AHeap} {o : Oper} {v : AV} {M' H' : AHeap} {i : Nat} (hM : stepA P E call ops T M o = some (v, M')) (hu : Und M H M'.next)
    (h : stepA P E call ops T H o = some (v, H')) (ho : ops[i]? = some o)
    {w : World} {ρ : LMap} (R : Rep E w0 H w ρ) {a : Act} (hT : relL ρ T a.tmps.toList) (hf : Fresh ρ H H') {K : Act → World → Prop} {Q : Exit → Act → World → Prop}
    (hK : ∀ ρ' vv w', Ext ρ ρ' → (∀ k, ¬ (H.next ≤ k ∧ k < H'.next) → ρ' k = ρ k) → rel ρ' v vv → Rep E w0 H' w' ρ' → K (a.put o.dst vv) w') : wpOp P ops Q i K a w := by
  unfold wpOp
  rw [ho]
  simp only
  unfold stepA at h hM
  split at h
  · rename_i hw
    rw [wanted_rel hw hT, if_pos rfl]
    left
    unfold Oper.wp
    split at h
    · rename_i v1 H1 h1
      cases h
      obtain ⟨nx, vv, w', ρ', g1, g2, g3, g4, g5, g6, _⟩ := opA_sound R h1 (eval_rel hT) hf
      rw [g1]
      rcases g2 with rfl | ⟨rfl, rfl⟩
      · exact hK ρ' vv w' g3 g4 g5 g6
      · exact hK ρ' undef w' g3 g4 g5 g6
    · rename_i f args H1 h1
      obtain ⟨rfl, vargs, g1, g2⟩ := opA_sound R h1 (eval_rel hT)
      rw [g1]
      simp only [hw] at hM
      split at hM
      · rename_i v2 M2 m1
        obtain ⟨ts, _, _, _, k4⟩ := opA_trs hu.wf m1
        have := k4 _ hu.sub
        rw [h1] at this
        cases this
      · rename_i f2 args2 M2 m1
        obtain ⟨rfl, k4⟩ := opA_trs hu.wf m1
        have := k4 _ hu.sub
        rw [h1] at this
        cases this
        refine Calls.mono (hc.2 _ _ _ _ _ _ _ hM hu h w ρ vargs R g2 hf) ?_
        rintro e w' ⟨u, ρ', rfl, k1, k2, k3, k4⟩
        exact hK ρ' u w' k1 k2 k3 k4
      · cases hM
    · cases h
  · rename_i hw
    rw [wanted_rel hw hT, if_neg Bool.false_ne_true]
    cases h
    exact hK ρ undef w (Ext.refl _) (fun _ _ => rfl) rel_undef R
  · cases h
/-- A state of the model that is one of the abstract machine's. -/
def St (E : Env) (w0 : World) (H0 : AHeap) (ρ0 : LMap) (ds : List Deferred) (T : List AV) (H : AHeap) (a : Act) (w : World) : Prop :=
  ∃ ρ, Ext ρ0 ρ ∧ (∀ k, ¬ (H0.next ≤ k ∧ k < H.next) → ρ k = ρ0 k) ∧ relL ρ T a.tmps.toList ∧ Rep E w0 H w ρ ∧ H0.next ≤ H.next ∧ a.defers = ds
theorem St.trans {H0 H1 H2 : AHeap} {ρ0 ρ1 : LMap} {ds : List Deferred} {T : List AV} {a : Act} {w : World} (h1 : Ext ρ0 ρ1) (h2 : ∀ k, ¬ (H0.next ≤ k ∧ k < H1.next) → ρ1 k = ρ0 k) (h3 : H0.next ≤ H1.next)
    (h : St E w0 H1 ρ1 ds T H2 a w) : St E w0 H0 ρ0 ds T H2 a w := by
  obtain ⟨ρ, g1, g2, g3, g4, g5, g6⟩ := h
  refine ⟨ρ, h1.trans g1, fun k hk => ?_, g3, g4, by omega, g6⟩
  rw [g2 k (by omega), h2 k (by omega)]
theorem Fresh.tail {H0 H1 H2 : AHeap} {ρ0 ρ1 : LMap} (h : Fresh ρ0 H0 H2) (h2 : ∀ k, ¬ (H0.next ≤ k ∧ k < H1.next) → ρ1 k = ρ0 k) (h3 : H0.next ≤ H1.next) : Fresh ρ1 H1 H2 := by
  intro k hk1 hk2
  rw [h2 k (by omega)]
  exact h k (by omega) hk2
theorem Fresh.head {H0 H1 H2 : AHeap} {ρ0 : LMap} (h : Fresh ρ0 H0 H2) (h3 : H1.next ≤ H2.next) : Fresh ρ0 H0 H1 := fun k hk1 hk2 => h k hk1 (by omega)
theorem put_defers (a : Act) (dst : Option Tmp) (v : Value) : (a.put dst v).defers = a.defers := by cases dst <;> rfl
theorem opsA_sound (hc : CallOk P E w0 call) {ops : Array Oper} {Q : Exit → Act → World → Prop} : ∀ (l : List Oper) (i : Nat) (T : List AV) (M H : AHeap) (T' : List AV) (M' H' : AHeap), opsA P E call ops l T M = some (T', M') → Und M H M'.next →
    opsA P E call ops l T H = some (T', H') →
    ops.toList.drop i = l → ∀ (w : World) (ρ : LMap) (a : Act), Rep E w0 H w ρ → relL ρ T a.tmps.toList → Fresh ρ H H' → (∀ a' w', St E w0 H ρ a.defers T' H' a' w' → Q .normal a' w') →
      wpOps P ops Q (List.range' i l.length) a w
  | [], i, T, M, H, T', M', H', hM, hu, h, _, w, ρ, a, R, hT, hf, hQ => by
    simp only [opsA] at h; cases h
    simp only [List.length_nil, List.range'_zero, wpOps]
    exact hQ a w ⟨ρ, Ext.refl _, fun _ _ => rfl, hT, R, Nat.le_refl _, rfl⟩
  | o :: l, i, T, M, H, T', M', H', hM, hu, h, hl, w, ρ, a, R, hT, hf, hQ => by
    simp only [opsA] at hM
    split at hM
    · rename_i v M1 m1
      obtain ⟨ts, t1, t2, t3, t4⟩ := stepA_trs hc.1 hu.wf m1
      obtain ⟨us, u1, u2, u3, u4⟩ := opsA_trs hc.1 l _ _ _ _ t3 hM
      have hm2 : M1.next ≤ M'.next := by rw [u1]; exact u2.1
      have h1 := t4 H hu.sub (hu.head hm2).free
      simp only [opsA, h1] at h
      have hn1 : H.next ≤ (aps ts H).next := hu.le t2
      subst t1
      have hu2 : Und (aps ts M) (aps ts H) M'.next := hu.step t2 t3
      have hn2 : (aps ts H).next ≤ H'.next := by
        have := u4 _ hu2.sub hu2.free
        rw [h] at this
        cases this
        exact hu2.le u2
      have hdr : ops.toList.drop (i + 1) = l := by
        have := congrArg List.tail hl
        rw [List.tail_drop] at this
        exact this
      have ho : ops[i]? = some o := by
        have : (ops.toList.drop i)[0]? = some o := by rw [hl]; rfl
        rw [List.getElem?_drop] at this
        simpa using this
      have hlen : (List.range' i (o :: l).length) = i :: List.range' (i + 1) l.length := by
        simp [List.range'_succ]
      rw [hlen, wpOps_cons]
      refine stepA_sound hc m1 (hu.head hm2) h1 ho R hT (hf.head hn2) ?_
      intro ρ' vv w' g1 g2 g3 g4
      refine opsA_sound hc l (i + 1) _ _ _ _ _ _ hM hu2 h hdr w' ρ' _ g4 (put_rel (relL_ext g1 _ _ hT) g3) (hf.tail g2 hn1) ?_
      intro a' w'' hst
      rw [put_defers] at hst
      exact hQ a' w'' (St.trans g1 g2 hn1 hst)
    · cases hM
end
end Go.Am
end
