/-
  The relation between the abstract machine's values and heap and the model's, and what is plain about it.
-/
import Derived.Test.YtcboaonbfgjmgaaAm1
namespace Go.Am

theorem Trie.get_setF {α : Type} : ∀ (f : Nat) (t : Trie α) (k : Nat) (x : Option α), k < f → (Trie.setF f t k x).get k = x
  | 0, _, _, _, h => by omega
  | f + 1, t, 0, x, _ => by cases t <;> simp [Trie.setF, Trie.get]
  | f + 1, t, k + 1, x, h => by
    have ih := fun t => Trie.get_setF f t (k / 2) x (by omega)
    cases t <;> simp only [Trie.setF] <;> split <;> simp_all [Trie.get]
theorem Trie.get_nil {α : Type} (k : Nat) : (Trie.nil : Trie α).get k = none := by simp [Trie.get]
theorem Trie.get_setF_ne {α : Type} : ∀ (f : Nat) (t : Trie α) (k j : Nat) (x : Option α), k ≠ j → (Trie.setF f t k x).get j = t.get j
  | 0, _, _, _, _, _ => rfl
  | f + 1, t, 0, j, x, h => by
    obtain ⟨j, rfl⟩ : ∃ i, j = i + 1 := ⟨j - 1, by omega⟩
    cases t <;> simp [Trie.setF, Trie.get]
  | f + 1, t, k + 1, 0, x, h => by cases t <;> simp only [Trie.setF] <;> split <;> simp [Trie.get]
  | f + 1, t, k + 1, j + 1, x, h => by
    cases t with
    | nil =>
      simp only [Trie.setF, Trie.get]
      split <;> simp only [Trie.get] <;> split
      · rw [Trie.get_setF_ne f _ _ _ _ (by omega), Trie.get_nil]
      · rfl
      · rfl
      · rw [Trie.get_setF_ne f _ _ _ _ (by omega), Trie.get_nil]
    | node v l r =>
      simp only [Trie.setF]
      split <;> simp only [Trie.get] <;> split
      · exact Trie.get_setF_ne f _ _ _ _ (by omega)
      · rfl
      · rfl
      · exact Trie.get_setF_ne f _ _ _ _ (by omega)
theorem Trie.get_set {α : Type} (t : Trie α) (k j : Nat) (x : Option α) : (t.set k x).get j = if k = j then x else t.get j := by
  unfold Trie.set
  split
  · rename_i h; subst h; exact Trie.get_setF _ _ _ _ (by omega)
  · rename_i h; exact Trie.get_setF_ne _ _ _ _ _ h

namespace AHeap
variable (H : AHeap)
theorem get_set (k j : Nat) (o : AObj) : (H.set k o).get j = if k = j then some o else H.get j := Trie.get_set ..
theorem get_kill (k j : Nat) : (H.kill k).get j = if k = j then none else H.get j := Trie.get_set ..
theorem get_new (j : Nat) (o : AObj) : (H.new o).get j = if H.next = j then some o else H.get j := Trie.get_set ..
@[simp] theorem next_set (k : Nat) (o : AObj) : (H.set k o).next = H.next := rfl
@[simp] theorem next_kill (k : Nat) : (H.kill k).next = H.next := rfl
@[simp] theorem next_new (o : AObj) : (H.new o).next = H.next + 1 := rfl
@[simp] theorem next_killAll (ks : List Nat) : ∀ H : AHeap, (H.killAll ks).next = H.next := by
  induction ks with
  | nil => intro H; rfl
  | cons k ks ih => intro H; rw [killAll, ih]; rfl
theorem get_killAll (ks : List Nat) (j : Nat) : ∀ H : AHeap, (H.killAll ks).get j = if j ∈ ks then none else H.get j := by
  induction ks with
  | nil => intro H; simp [killAll]
  | cons k ks ih =>
    intro H
    rw [killAll, ih, get_kill]
    by_cases h : j ∈ ks
    · simp [h]
    · by_cases e : k = j <;> simp [h, e]
      intro e'; exact absurd e'.symm e
end AHeap

structure Loc where
  blk : Nat
  d : Nat
  n : Nat

abbrev LMap := Nat → Option Loc

def baseOf (ρ : LMap) : Id → Option (Nat × Nat)
  | .old b => some (b, 0)
  | .new k => (ρ k).map fun l => (l.blk, l.d)

def roomOk (ρ : LMap) : Id → Nat → Prop
  | .old _, _ => True
  | .new k, e => ∃ l, ρ k = some l ∧ l.d + e ≤ l.n

mutual
def rel (ρ : LMap) : AV → Value → Prop
  | .bool b, v => v = .bool b
  | .int k n, v => v = .int k n
  | .str s, v => v = .string ⟨s.toArray⟩
  | .nilPtr, v => v = .pointer none
  | .ptr o i, v => ∃ b d, baseOf ρ o = some (b, d) ∧ v = .pointer (some ⟨b, d + i, none⟩)
  | .nilSlc, v => v = .slice none 0 0
  | .slc o i len cap ex sz, v => ∃ a c, v = .slice (some a) len c ∧ len ≤ c ∧ cap ≤ c ∧ (ex = true → c = cap) ∧
      (c = 0 ∨ ∃ b d, baseOf ρ o = some (b, d) ∧ a = ⟨b, d + i, none⟩) ∧ roomOk ρ o (i + c * sz)
  | .nilMap, v => v = .map none
  | .map k, v => ∃ l, ρ k = some l ∧ v = .map (some l.blk)
  | .fn f a b, v => ∃ x y, v = .func f x y ∧ relL ρ a x.toList ∧ relL ρ b y.toList
  | .nilFn, v => v = .nilFunc
  | .ifc t a, v => ∃ x, v = .iface t x ∧ rel ρ a x
  | .nilIfc, v => v = .nilIface
  | .agg cs, v => ∃ x, v = .agg x ∧ relL ρ cs x.toList
  | .tup cs, v => ∃ x, v = .tuple x ∧ relL ρ cs x.toList
  | .opq u, v => v = u
def relL (ρ : LMap) : List AV → List Value → Prop
  | [], l => l = []
  | a :: as, l => ∃ v vs, l = v :: vs ∧ rel ρ a v ∧ relL ρ as vs
end

/-- What is known of places is kept. -/
def Ext (ρ ρ' : LMap) : Prop := ∀ k l, ρ k = some l → ρ' k = some l
theorem Ext.refl (ρ : LMap) : Ext ρ ρ := fun _ _ h => h
theorem Ext.trans {a b c : LMap} (h : Ext a b) (h' : Ext b c) : Ext a c := fun k l e => h' k l (h k l e)

section
variable {ρ ρ' : LMap}
theorem baseOf_ext (h : Ext ρ ρ') {o : Id} {x : Nat × Nat} (e : baseOf ρ o = some x) : baseOf ρ' o = some x := by
  cases o with
  | old b => exact e
  | new k =>
    simp only [baseOf, Option.map_eq_some_iff] at e ⊢
    obtain ⟨l, hl, rfl⟩ := e
    exact ⟨l, h _ _ hl, rfl⟩

theorem roomOk_ext (h : Ext ρ ρ') {o : Id} {e : Nat} (r : roomOk ρ o e) : roomOk ρ' o e := by
  cases o with
  | old b => exact r
  | new k => obtain ⟨l, hl, hr⟩ := r; exact ⟨l, h _ _ hl, hr⟩

mutual
theorem rel_ext (h : Ext ρ ρ') : ∀ (a : AV) (v : Value), rel ρ a v → rel ρ' a v
  | .bool _, _, r | .int _ _, _, r | .str _, _, r | .nilPtr, _, r | .nilSlc, _, r | .nilMap, _, r | .nilFn, _, r | .nilIfc, _, r | .opq _, _, r => by
    simpa only [rel] using r
  | .ptr o i, v, r => by
    simp only [rel] at r ⊢
    obtain ⟨b, d, e, r⟩ := r
    exact ⟨b, d, baseOf_ext h e, r⟩
  | .slc o i len cap ex sz, v, r => by
    simp only [rel] at r ⊢
    obtain ⟨a, c, e, h1, h2, h3, h4, h5⟩ := r
    exact ⟨a, c, e, h1, h2, h3, h4.imp id (fun ⟨b, d, e, r⟩ => ⟨b, d, baseOf_ext h e, r⟩), roomOk_ext h h5⟩
  | .map k, v, r => by
    simp only [rel] at r ⊢
    obtain ⟨l, e, r⟩ := r
    exact ⟨l, h _ _ e, r⟩
  | .fn f a b, v, r => by
    simp only [rel] at r ⊢
    obtain ⟨x, y, e, r1, r2⟩ := r
    exact ⟨x, y, e, relL_ext h a _ r1, relL_ext h b _ r2⟩
  | .ifc t a, v, r => by
    simp only [rel] at r ⊢
    obtain ⟨x, e, r⟩ := r
    exact ⟨x, e, rel_ext h a _ r⟩
  | .agg cs, v, r => by
    simp only [rel] at r ⊢
    obtain ⟨x, e, r⟩ := r
    exact ⟨x, e, relL_ext h cs _ r⟩
  | .tup cs, v, r => by
    simp only [rel] at r ⊢
    obtain ⟨x, e, r⟩ := r
    exact ⟨x, e, relL_ext h cs _ r⟩
theorem relL_ext (h : Ext ρ ρ') : ∀ (l : List AV) (v : List Value), relL ρ l v → relL ρ' l v
  | [], _, r => by simpa only [relL] using r
  | a :: l, v, r => by
    simp only [relL] at r ⊢
    obtain ⟨x, xs, e, r1, r2⟩ := r
    exact ⟨x, xs, e, rel_ext h a _ r1, relL_ext h l _ r2⟩
end

theorem relL_nil {l : List Value} : relL ρ [] l ↔ l = [] := by simp only [relL]
theorem relL_cons {a : AV} {as : List AV} {v : Value} {vs : List Value} : relL ρ (a :: as) (v :: vs) ↔ rel ρ a v ∧ relL ρ as vs := by
  simp only [relL]
  constructor
  · rintro ⟨x, xs, e, h1, h2⟩; cases e; exact ⟨h1, h2⟩
  · rintro ⟨h1, h2⟩; exact ⟨v, vs, rfl, h1, h2⟩
theorem relL_not_cons {a : AV} {as : List AV} : ¬ relL ρ (a :: as) [] := by
  simp only [relL]; rintro ⟨_, _, e, _⟩; cases e
theorem relL_not_nil {v : Value} {vs : List Value} : ¬ relL ρ [] (v :: vs) := by simp only [relL]; intro e; cases e
theorem relL_length : ∀ {as : List AV} {vs : List Value}, relL ρ as vs → as.length = vs.length
  | [], [], _ => rfl
  | [], _ :: _, h => (relL_not_nil h).elim
  | _ :: _, [], h => (relL_not_cons h).elim
  | _ :: _, _ :: _, h => by simp [relL_length (relL_cons.1 h).2]
theorem relL_get : ∀ {as : List AV} {vs : List Value} (_ : relL ρ as vs) (i : Nat) {a : AV}, as[i]? = some a → ∃ v, vs[i]? = some v ∧ rel ρ a v
  | [], _, _, i, a, h => by simp at h
  | _ :: _, [], r, _, _, _ => (relL_not_cons r).elim
  | a :: as, v :: vs, r, 0, b, h => by
    simp at h; subst h; exact ⟨v, rfl, (relL_cons.1 r).1⟩
  | a :: as, v :: vs, r, i + 1, b, h => by
    simp at h
    obtain ⟨u, hu, hr⟩ := relL_get (relL_cons.1 r).2 i h
    exact ⟨u, by simpa using hu, hr⟩
theorem relL_of_get : ∀ {as : List AV} {vs : List Value} (_ : as.length = vs.length) (_ : ∀ (i : Nat) (a : AV) (v : Value), as[i]? = some a → vs[i]? = some v → rel ρ a v), relL ρ as vs
  | [], [], _, _ => relL_nil.2 rfl
  | a :: as, v :: vs, hl, h => relL_cons.2 ⟨h 0 a v rfl rfl, relL_of_get (by simpa using hl) fun i x y hx hy => h (i + 1) x y (by simpa using hx) (by simpa using hy)⟩
theorem relL_append {as bs : List AV} {vs ws : List Value} (h : relL ρ as vs) (h' : relL ρ bs ws) : relL ρ (as ++ bs) (vs ++ ws) := by
  induction as generalizing vs with
  | nil => rw [relL_nil] at h; subst h; exact h'
  | cons a as ih =>
    cases vs with
    | nil => exact (relL_not_cons h).elim
    | cons v vs => rw [relL_cons] at h; exact relL_cons.2 ⟨h.1, ih h.2⟩
theorem relL_take {as : List AV} {vs : List Value} (h : relL ρ as vs) (n : Nat) : relL ρ (as.take n) (vs.take n) := by
  induction as generalizing vs n with
  | nil => rw [relL_nil] at h; subst h; simp [relL_nil]
  | cons a as ih =>
    cases vs with
    | nil => exact (relL_not_cons h).elim
    | cons v vs =>
      cases n with
      | zero => simp [relL_nil]
      | succ n => rw [relL_cons] at h; exact relL_cons.2 ⟨h.1, ih h.2 n⟩
theorem relL_drop {as : List AV} {vs : List Value} (h : relL ρ as vs) (n : Nat) : relL ρ (as.drop n) (vs.drop n) := by
  induction as generalizing vs n with
  | nil => rw [relL_nil] at h; subst h; simp [relL_nil]
  | cons a as ih =>
    cases vs with
    | nil => exact (relL_not_cons h).elim
    | cons v vs =>
      cases n with
      | zero => exact h
      | succ n => rw [relL_cons] at h; exact ih h.2 n
theorem relL_set {as : List AV} {vs : List Value} (h : relL ρ as vs) (n : Nat) {a : AV} {v : Value} (hv : rel ρ a v) : relL ρ (as.set n a) (vs.set n v) := by
  induction as generalizing vs n with
  | nil => rw [relL_nil] at h; subst h; simp [relL_nil]
  | cons b as ih =>
    cases vs with
    | nil => exact (relL_not_cons h).elim
    | cons u vs =>
      rw [relL_cons] at h
      cases n with
      | zero => exact relL_cons.2 ⟨hv, h.2⟩
      | succ n => exact relL_cons.2 ⟨h.1, ih h.2 n⟩
theorem relL_all {P : AV → Prop} {Q : Value → Prop} (hpq : ∀ a v, rel ρ a v → P a → Q v) : ∀ {as : List AV} {vs : List Value}, relL ρ as vs → (∀ a ∈ as, P a) → ∀ v ∈ vs, Q v
  | [], [], _, _ => by simp
  | [], _ :: _, h, _ => (relL_not_nil h).elim
  | _ :: _, [], h, _ => (relL_not_cons h).elim
  | a :: as, v :: vs, h, hp => by
    rw [relL_cons] at h
    intro u hu
    rcases List.mem_cons.1 hu with rfl | hu
    · exact hpq _ _ h.1 (hp a (by simp))
    · exact relL_all hpq h.2 (fun b hb => hp b (by simp [hb])) u hu

theorem rel_ofVal1 (v : Value) : rel ρ (ofVal1 v) v := by
  unfold ofVal1
  split <;> simp [rel]
theorem relL_ofVal1 : ∀ l : List Value, relL ρ (l.map ofVal1) l
  | [] => relL_nil.2 rfl
  | v :: l => relL_cons.2 ⟨rel_ofVal1 v, relL_ofVal1 l⟩
theorem rel_ofVal (v : Value) : rel ρ (ofVal v) v := by
  unfold ofVal
  split
  · rename_i cs; simp only [rel]; exact ⟨cs, rfl, relL_ofVal1 _⟩
  · simp only [rel]; exact ⟨_, rfl, relL_nil.2 rfl⟩
  · exact rel_ofVal1 _
theorem rel_undef : rel ρ undefA undef := by
  simp only [undefA, undef, rel]; exact ⟨_, rfl, relL_nil.2 rfl⟩

theorem relL_opq : ∀ l : List Value, relL ρ (l.map .opq) l
  | [] => relL_nil.2 rfl
  | v :: l => relL_cons.2 ⟨by simp only [rel], relL_opq l⟩
theorem rel_cells {a : AV} {v : Value} (h : rel ρ a v) : relL ρ a.cells v.cells.toList := by
  have key : ∀ (a : AV) (v : Value), rel ρ a v → a.cells = [a] → v.cells = #[v] → relL ρ a.cells v.cells.toList := by
    intro a v h h1 h2
    rw [h1, h2]
    exact relL_cons.2 ⟨h, relL_nil.2 rfl⟩
  cases a
  case agg cs => simp only [rel] at h; obtain ⟨x, rfl, r⟩ := h; exact r
  case opq u => simp only [rel] at h; subst h; exact relL_opq _
  all_goals
    refine key _ _ h rfl ?_
    simp only [rel] at h
    first
      | (obtain ⟨a, c, rfl, _⟩ := h; rfl)
      | (obtain ⟨x, y, rfl, _⟩ := h; rfl)
      | (obtain ⟨x, rfl, _⟩ := h; rfl)
      | (obtain ⟨l, h0, rfl⟩ := h; rfl)
      | (obtain ⟨b, d, h0, rfl⟩ := h; rfl)
      | (subst h; rfl)
theorem scalar_rel {a : AV} {v : Value} (h : rel ρ a v) (hs : scalar a = true) : ¬ (∃ x, v = .agg x) ∧ ¬ (∃ x, v = .tuple x) := by
  cases a <;> simp only [rel] at h <;> simp only [scalar, Bool.false_eq_true] at hs
  case opq u => subst h; cases v <;> simp_all
  all_goals
    first
      | (obtain ⟨a, c, rfl, _⟩ := h)
      | (obtain ⟨x, y, rfl, _⟩ := h)
      | (obtain ⟨x, rfl, _⟩ := h)
      | (obtain ⟨l, h0, rfl⟩ := h)
      | (obtain ⟨b, d, h0, rfl⟩ := h)
      | (subst h)
    simp
end
end Go.Am
