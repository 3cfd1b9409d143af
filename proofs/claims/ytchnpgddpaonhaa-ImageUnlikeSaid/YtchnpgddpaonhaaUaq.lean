/-
  Texts Am38 Da Db Dc, as far as they are used.
-/
import Derived.Test.YtchnpgddpaonhaaUap
import Derived.Test.YtchnpgddpaonhaaUao
section
namespace Go.Am
set_option linter.unusedVariables false
section
variable (P : Program) (E : Env) (w0 : World) (cut : List Nat)
end
section
variable {P : Program} {E : Env} {w0 : World} {cut : List Nat}
/-- A row is the row of some world. -/
theorem codeW_rb {c : Code} {T : List AV} {H : AHeap} {Q : AExit → List AV → AHeap → Prop} (h : Rb E w0 H T → CodeW P E w0 c T H Q) : CodeW P E w0 c T H Q := by
  intro w ρ a K R hf hT
  exact h (Rb.put R hf hT) w ρ a K R hf hT
theorem CodeX.toW {c : Code} {T : List AV} {H : AHeap} {Q : AExit → List AV → AHeap → Prop} (h : CodeX P E w0 c T H Q) : CodeW P E w0 c T H Q := codeW_rb fun hr => by
  obtain ⟨ex, T', H', h1, h2⟩ := h hr
  refine h1.mono fun e T1 H1 he => ?_
  obtain ⟨rfl, rfl, rfl⟩ := he
  exact h2
end
end Go.Am
end

section
namespace Go.Am
set_option linter.unusedVariables false
set_option linter.unusedSimpArgs false
inductive D where
  | any
  | bool (b : Bool)
  | int (k : IntKind) (n : Int)
  | str (s : List UInt8)
  | nilPtr
  | nilSlc
  | nilMap
  | nilFn
  | nilIfc
  | ptr (k i : Nat)
  | rel (k r i sz : Nat)
  | elt (row : List D) (i : Nat)
  | lst (rows : List (List D)) (sz : Nat)
  | ext (rows more : List (List D)) (sz : Nat)
  | raw (k i len cap : Nat) (ex : Bool) (sz : Nat)
  | fn (f : Fn) (a b : List D)
  | ifc (t : TypeId) (v : D)
  | agg (cs : List D)
  | tup (vs : List D)
  deriving Inhabited
def undefD : D := .tup []
/-- What is no longer turned: objects by number. -/
abbrev Fz := Nat → Option (List AV)
def rdE (E : Env) (R : Fz) : Id → Option (List AV)
  | .old b => E b
  | .new k => R k
def fitsD : Id → Nat → Nat → Prop
  | .old _, _, _ => True
  | .new _, z, sz => z = sz
mutual
def Rp (E : Env) (R : Fz) : D → AV → Prop
  | .any, _ => True
  | .bool b, v => v = .bool b
  | .int k n, v => v = .int k n
  | .str s, v => v = .str s
  | .nilPtr, v => v = .nilPtr
  | .nilSlc, v => v = .nilSlc
  | .nilMap, v => v = .nilMap
  | .nilFn, v => v = .nilFn
  | .nilIfc, v => v = .nilIfc
  | .ptr k i, v => v = .ptr (.new k) i
  | .rel k r i sz, v => v = .ptr (.new k) (r * sz + i)
  | .elt row i, v => ∃ o j all, v = .ptr o (j + i) ∧ rdE E R o = some all ∧ RpL E R row ((all.drop j).take row.length) ∧ ((all.drop j).take row.length).all scalar = true
  | .lst rows sz, v => (rows = [] ∧ v = .nilSlc) ∨ ∃ o j cap ex z, v = .slc o j rows.length cap ex z ∧ fitsD o z sz ∧ rows.length ≤ cap ∧ (∀ row ∈ rows, row.length = sz) ∧
      (rows = [] ∨ ∃ all, rdE E R o = some all ∧ RpLL E R rows ((all.drop j).take (rows.length * sz)) ∧ ((all.drop j).take (rows.length * sz)).all scalar = true)
  | .ext rows more sz, v => ∃ o j cap ex z all, v = .slc o j rows.length cap ex z ∧ fitsD o z sz ∧ rows.length + more.length ≤ cap ∧ (∀ row ∈ rows, row.length = sz) ∧ (∀ row ∈ more, row.length = sz) ∧ (rdE E R o = some all ∨ (rows = [] ∧ more = [])) ∧
      RpLL E R rows ((all.drop j).take (rows.length * sz)) ∧ RpLL E R more ((all.drop (j + rows.length * sz)).take (more.length * sz)) ∧ ((all.drop j).take ((rows.length + more.length) * sz)).all scalar = true
  | .raw k i len cap ex sz, v => v = .slc (.new k) (i * sz) len cap ex sz
  | .fn f a b, v => ∃ a' b', v = .fn f a' b' ∧ RpL E R a a' ∧ RpL E R b b'
  | .ifc t d, v => ∃ v', v = .ifc t v' ∧ Rp E R d v'
  | .agg cs, v => ∃ vs, v = .agg vs ∧ RpL E R cs vs ∧ vs.all scalar = true
  | .tup ds, v => ∃ vs, v = .tup vs ∧ RpL E R ds vs
def RpL (E : Env) (R : Fz) : List D → List AV → Prop
  | [], l => l = []
  | d :: ds, l => ∃ v vs, l = v :: vs ∧ Rp E R d v ∧ RpL E R ds vs
def RpLL (E : Env) (R : Fz) : List (List D) → List AV → Prop
  | [], l => l = []
  | row :: rows, l => ∃ vs ws, l = vs ++ ws ∧ RpL E R row vs ∧ RpLL E R rows ws
end
def Fz.le (R R' : Fz) : Prop := ∀ k cs, R k = some cs → R' k = some cs
theorem Fz.le_refl (R : Fz) : R.le R := fun _ _ h => h
theorem Fz.le_trans {R R1 R2 : Fz} (h : R.le R1) (h' : R1.le R2) : R.le R2 := fun k cs e => h' _ _ (h _ _ e)
theorem rdE_le {E : Env} {R R' : Fz} (h : R.le R') {o : Id} {all : List AV} (e : rdE E R o = some all) : rdE E R' o = some all := by
  cases o with
  | old b => exact e
  | new k => exact h _ _ e
mutual
theorem Rp.le {E : Env} {R R' : Fz} (h : R.le R') : ∀ (d : D) (v : AV), Rp E R d v → Rp E R' d v
  | .any, _, _ => by simp only [Rp]
  | .bool b, v, e => by simp only [Rp] at e ⊢; exact e
  | .int k n, v, e => by simp only [Rp] at e ⊢; exact e
  | .str s, v, e => by simp only [Rp] at e ⊢; exact e
  | .nilPtr, v, e => by simp only [Rp] at e ⊢; exact e
  | .nilSlc, v, e => by simp only [Rp] at e ⊢; exact e
  | .nilMap, v, e => by simp only [Rp] at e ⊢; exact e
  | .nilFn, v, e => by simp only [Rp] at e ⊢; exact e
  | .nilIfc, v, e => by simp only [Rp] at e ⊢; exact e
  | .ptr k i, v, e => by simp only [Rp] at e ⊢; exact e
  | .rel k r i sz, v, e => by simp only [Rp] at e ⊢; exact e
  | .elt row i, v, e => by
    simp only [Rp] at e ⊢
    obtain ⟨o, j, all, e1, e2, e3, e4⟩ := e
    exact ⟨o, j, all, e1, rdE_le h e2, RpL.le h row _ e3, e4⟩
  | .lst rows sz, v, e => by
    simp only [Rp] at e ⊢
    rcases e with e | ⟨o, j, cap, ex, z, e1, e2, e3, e4, e5⟩
    · exact .inl e
    refine .inr ⟨o, j, cap, ex, z, e1, e2, e3, e4, ?_⟩
    rcases e5 with e5 | ⟨all, e5, e6, e7⟩
    · exact .inl e5
    · exact .inr ⟨all, rdE_le h e5, RpLL.le h rows _ e6, e7⟩
  | .ext rows more sz, v, e => by
    simp only [Rp] at e ⊢
    obtain ⟨o, j, cap, ex, z, all, e1, e2, e3, e4, e5, e6, e7, e8, e9⟩ := e
    exact ⟨o, j, cap, ex, z, all, e1, e2, e3, e4, e5, e6.imp (rdE_le h) id, RpLL.le h rows _ e7, RpLL.le h more _ e8, e9⟩
  | .raw k i len cap ex sz, v, e => by simp only [Rp] at e ⊢; exact e
  | .fn f a b, v, e => by
    simp only [Rp] at e ⊢
    obtain ⟨a', b', e1, e2, e3⟩ := e
    exact ⟨a', b', e1, RpL.le h a _ e2, RpL.le h b _ e3⟩
  | .ifc t d, v, e => by
    simp only [Rp] at e ⊢
    obtain ⟨v', e1, e2⟩ := e
    exact ⟨v', e1, Rp.le h d _ e2⟩
  | .agg cs, v, e => by
    simp only [Rp] at e ⊢
    obtain ⟨vs, e1, e2, e3⟩ := e
    exact ⟨vs, e1, RpL.le h cs _ e2, e3⟩
  | .tup ds, v, e => by
    simp only [Rp] at e ⊢
    obtain ⟨vs, e1, e2⟩ := e
    exact ⟨vs, e1, RpL.le h ds _ e2⟩
theorem RpL.le {E : Env} {R R' : Fz} (h : R.le R') : ∀ (ds : List D) (vs : List AV), RpL E R ds vs → RpL E R' ds vs
  | [], l, e => by simp only [RpL] at e ⊢; exact e
  | d :: ds, l, e => by
    simp only [RpL] at e ⊢
    obtain ⟨v, vs, e1, e2, e3⟩ := e
    exact ⟨v, vs, e1, Rp.le h d _ e2, RpL.le h ds _ e3⟩
theorem RpLL.le {E : Env} {R R' : Fz} (h : R.le R') : ∀ (rows : List (List D)) (vs : List AV), RpLL E R rows vs → RpLL E R' rows vs
  | [], l, e => by simp only [RpLL] at e ⊢; exact e
  | row :: rows, l, e => by
    simp only [RpLL] at e ⊢
    obtain ⟨vs, ws, e1, e2, e3⟩ := e
    exact ⟨vs, ws, e1, RpL.le h row _ e2, RpLL.le h rows _ e3⟩
end
section
variable {E : Env} {R : Fz}
theorem RpL.length : ∀ {ds : List D} {vs : List AV}, RpL E R ds vs → vs.length = ds.length
  | [], l, e => by simp only [RpL] at e; rw [e]; rfl
  | d :: ds, l, e => by
    simp only [RpL] at e
    obtain ⟨v, vs, rfl, e2, e3⟩ := e
    rw [List.length_cons, List.length_cons, RpL.length e3]
theorem rpL_nil : RpL E R [] [] := by simp only [RpL]
theorem rpL_cons {d : D} {v : AV} {ds : List D} {vs : List AV} (h : Rp E R d v) (hs : RpL E R ds vs) : RpL E R (d :: ds) (v :: vs) := by simp only [RpL]; exact ⟨v, vs, rfl, h, hs⟩
theorem rpL_get : ∀ {ds : List D} {vs : List AV}, RpL E R ds vs → ∀ {i : Nat} {d : D}, ds[i]? = some d → ∃ v, vs[i]? = some v ∧ Rp E R d v
  | [], l, e, i, d, h => by cases h
  | x :: ds, l, e, i, d, h => by
    simp only [RpL] at e
    obtain ⟨v, vs, rfl, e2, e3⟩ := e
    cases i with
    | zero => cases h; exact ⟨v, rfl, e2⟩
    | succ i => exact rpL_get e3 (i := i) h
theorem rpL_of_get : ∀ {ds : List D} {vs : List AV}, vs.length = ds.length → (∀ (i : Nat) (d : D) (v : AV), ds[i]? = some d → vs[i]? = some v → Rp E R d v) → RpL E R ds vs
  | [], [], _, _ => rpL_nil
  | [], _ :: _, h, _ => by cases h
  | _ :: _, [], h, _ => by cases h
  | d :: ds, v :: vs, hl, h => rpL_cons (h 0 d v rfl rfl) (rpL_of_get (by simpa using hl) fun i d v h1 h2 => h (i + 1) d v h1 h2)
theorem RpL.set {ds : List D} {vs : List AV} (h : RpL E R ds vs) (i : Nat) {d : D} {v : AV} (hd : Rp E R d v) : RpL E R (ds.set i d) (vs.set i v) := by
  refine rpL_of_get (by rw [List.length_set, List.length_set, h.length]) fun j d' v' h1 h2 => ?_
  rw [List.getElem?_set] at h1 h2
  have hl := h.length
  by_cases e : i = j
  · rw [if_pos e] at h1 h2
    split at h1
    · split at h2
      · cases h1; cases h2; exact hd
      · cases h2
    · cases h1
  · rw [if_neg e] at h1 h2
    obtain ⟨w, g1, g2⟩ := rpL_get h h1
    rw [h2] at g1; cases g1; exact g2
theorem RpL.append {ds ds' : List D} {vs vs' : List AV} (h : RpL E R ds vs) (h' : RpL E R ds' vs') : RpL E R (ds ++ ds') (vs ++ vs') := by
  induction ds generalizing vs with
  | nil => simp only [RpL] at h; subst h; exact h'
  | cons d ds ih =>
    simp only [RpL] at h
    obtain ⟨v, vs, rfl, e2, e3⟩ := h
    exact rpL_cons e2 (ih e3)
theorem RpL.drop {ds : List D} {vs : List AV} (h : RpL E R ds vs) (n : Nat) : RpL E R (ds.drop n) (vs.drop n) :=
  rpL_of_get (by rw [List.length_drop, List.length_drop, h.length]) fun i d v h1 h2 => by
    rw [List.getElem?_drop] at h1 h2
    obtain ⟨w, g1, g2⟩ := rpL_get h h1
    rw [h2] at g1; cases g1; exact g2
theorem RpL.take {ds : List D} {vs : List AV} (h : RpL E R ds vs) (n : Nat) : RpL E R (ds.take n) (vs.take n) :=
  rpL_of_get (by rw [List.length_take, List.length_take, h.length]) fun i d v h1 h2 => by
    rw [List.getElem?_take] at h1 h2
    split at h1
    · rename_i hi
      rw [if_pos hi] at h2
      obtain ⟨w, g1, g2⟩ := rpL_get h h1
      rw [h2] at g1; cases g1; exact g2
    · cases h1
theorem rpL_split : ∀ {as bs : List D} {vs : List AV}, RpL E R (as ++ bs) vs → ∃ v w, vs = v ++ w ∧ RpL E R as v ∧ RpL E R bs w
  | [], bs, vs, h => ⟨[], vs, rfl, rpL_nil, h⟩
  | a :: as, bs, vs, h => by
    simp only [List.cons_append, RpL] at h
    obtain ⟨v, vs, rfl, e2, e3⟩ := h
    obtain ⟨v', w, rfl, h1, h2⟩ := rpL_split e3
    exact ⟨v :: v', w, rfl, rpL_cons e2 h1, h2⟩
theorem rpLL_iff : ∀ {rows : List (List D)} {vs : List AV}, RpLL E R rows vs ↔ RpL E R rows.flatten vs
  | [], vs => by simp only [RpLL, List.flatten_nil, RpL]
  | row :: rows, vs => by
    simp only [RpLL, List.flatten_cons]
    constructor
    · rintro ⟨v, w, rfl, h1, h2⟩
      exact h1.append (rpLL_iff.1 h2)
    · intro h
      obtain ⟨v, w, rfl, h1, h2⟩ := rpL_split h
      exact ⟨v, w, rfl, h1, rpLL_iff.2 h2⟩
theorem rp_undef : Rp E R undefD undefA := by simp only [undefD, Rp]; exact ⟨[], rfl, rpL_nil⟩
theorem rpL_getD {ds : List D} {vs : List AV} (h : RpL E R ds vs) (t : Nat) : Rp E R (ds.getD t undefD) (vs.getD t undefA) := by
  rw [List.getD_eq_getElem?_getD, List.getD_eq_getElem?_getD]
  cases e : ds[t]? with
  | none =>
    have : vs[t]? = none := List.getElem?_eq_none (by rw [h.length]; exact List.getElem?_eq_none_iff.1 e)
    rw [this]; exact rp_undef
  | some d =>
    obtain ⟨v, g1, g2⟩ := rpL_get h e
    rw [g1]; exact g2
end
theorem flat_length {α : Type} {rows : List (List α)} {sz : Nat} (h : ∀ row ∈ rows, row.length = sz) : rows.flatten.length = rows.length * sz := by
  induction rows with
  | nil => simp
  | cons r rs ih =>
    rw [List.flatten_cons, List.length_append, h r List.mem_cons_self, ih fun x hx => h x (List.mem_cons_of_mem _ hx), List.length_cons, Nat.succ_mul, Nat.add_comm]
theorem flat_drop {α : Type} {rows : List (List α)} {sz : Nat} (h : ∀ row ∈ rows, row.length = sz) (n : Nat) : rows.flatten.drop (n * sz) = (rows.drop n).flatten := by
  induction rows generalizing n with
  | nil => simp
  | cons r rs ih =>
    cases n with
    | zero => simp
    | succ n =>
      have hr := h r List.mem_cons_self
      rw [List.flatten_cons, List.drop_succ_cons, ← ih (fun x hx => h x (List.mem_cons_of_mem _ hx)) n, List.drop_append, List.drop_of_length_le (by rw [hr, Nat.succ_mul]; omega), List.nil_append, hr, Nat.succ_mul, Nat.add_sub_cancel]
theorem flat_take {α : Type} {rows : List (List α)} {sz : Nat} (h : ∀ row ∈ rows, row.length = sz) (n : Nat) : rows.flatten.take (n * sz) = (rows.take n).flatten := by
  induction rows generalizing n with
  | nil => simp
  | cons r rs ih =>
    cases n with
    | zero => simp
    | succ n =>
      have hr := h r List.mem_cons_self
      rw [List.flatten_cons, List.take_succ_cons, List.flatten_cons, ← ih (fun x hx => h x (List.mem_cons_of_mem _ hx)) n, List.take_append, List.take_of_length_le (by rw [hr, Nat.succ_mul]; omega), hr, Nat.succ_mul, Nat.add_sub_cancel]
theorem flat_row {α : Type} {rows : List (List α)} {sz : Nat} (h : ∀ row ∈ rows, row.length = sz) {r : Nat} {row : List α} (hr : rows[r]? = some row) : (rows.flatten.drop (r * sz)).take sz = row := by
  rw [flat_drop h]
  have hlt := (List.getElem?_eq_some_iff.1 hr).1
  have e : rows.drop r = row :: rows.drop (r + 1) := by
    rw [List.drop_eq_getElem_cons hlt]
    congr 1
    exact (List.getElem?_eq_some_iff.1 hr).2
  rw [e, List.flatten_cons, List.take_append, List.take_of_length_le (by rw [h row (List.mem_of_getElem? hr)]; omega), h row (List.mem_of_getElem? hr), Nat.sub_self, List.take_zero, List.append_nil]
structure DObj where
  sz : Nat
  rows : List (List D)
  acs : List AV
abbrev DSt := Nat → Option DObj
def DSt.set (S : DSt) (k : Nat) (o : DObj) : DSt := fun j => if j = k then some o else S j
def DSt.erase (S : DSt) (k : Nat) : DSt := fun j => if j = k then none else S j
def DSt.none : DSt := fun _ => Option.none
def DSt.le (S S' : DSt) : Prop := ∀ k o, S k = some o → S' k = some o
theorem DSt.set_same (S : DSt) (k : Nat) (o : DObj) : (S.set k o) k = some o := if_pos rfl
theorem DSt.set_ne (S : DSt) (k : Nat) (o : DObj) {j : Nat} (h : j ≠ k) : (S.set k o) j = S j := if_neg h
theorem DSt.erase_ne (S : DSt) (k : Nat) {j : Nat} (h : j ≠ k) : (S.erase k) j = S j := if_neg h
theorem DSt.le_refl (S : DSt) : S.le S := fun _ _ h => h
theorem DSt.le_trans {S S1 S2 : DSt} (h : S.le S1) (h' : S1.le S2) : S.le S2 := fun k o e => h' _ _ (h _ _ e)
theorem DSt.le_set {S S' : DSt} (h : S.le S') {k : Nat} {o : DObj} (hk : S k = Option.none) : S.le (S'.set k o) := fun j x e => by
  rw [DSt.set_ne]
  · exact h _ _ e
  · rintro rfl; rw [hk] at e; cases e
theorem DSt.le_erase {S S' : DSt} (h : S.le S') {k : Nat} (hk : S k = Option.none) : S.le (S'.erase k) := fun j x e => by
  rw [DSt.erase_ne]
  · exact h _ _ e
  · rintro rfl; rw [hk] at e; cases e
theorem DSt.erase_le (S : DSt) (k : Nat) : (S.erase k).le S := fun j x e => by
  unfold DSt.erase at e
  split at e
  · cases e
  · exact e
theorem DSt.set_set (S : DSt) (k : Nat) (a b : DObj) : (S.set k a).set k b = S.set k b := by
  funext j; unfold DSt.set; split <;> rfl
theorem DSt.set_comm (S : DSt) {k l : Nat} (h : k ≠ l) (a b : DObj) : (S.set k a).set l b = (S.set l b).set k a := by
  funext j; unfold DSt.set
  by_cases h1 : j = l
  · subst h1; rw [if_pos rfl, if_neg (Ne.symm h), if_pos rfl]
  · rw [if_neg h1, if_neg h1]
theorem DSt.erase_set (S : DSt) (k : Nat) (a : DObj) (h : S k = Option.none) : (S.set k a).erase k = S := by
  funext j; unfold DSt.erase DSt.set
  by_cases h1 : j = k
  · subst h1; rw [if_pos rfl, h]
  · rw [if_neg h1, if_neg h1]
/-- A heap is as told. -/
structure Conf (E : Env) (R : Fz) (S : DSt) (H : AHeap) : Prop where
  frozen : ∀ k cs, R k = some cs → ∃ pre, H.get k = some (.cells cs true pre)
  own : ∀ k o, S k = some o → R k = none ∧ (∃ pre, H.get k = some (.cells o.acs true pre)) ∧ o.acs.all scalar = true ∧ (∀ row ∈ o.rows, row.length = o.sz) ∧ RpL E R o.rows.flatten o.acs
section
variable {E : Env} {R : Fz} {S : DSt} {H : AHeap}
theorem Conf.less (h : Conf E R S H) {S' : DSt} (hs : S'.le S) : Conf E R S' H := ⟨h.frozen, fun k o e => h.own k o (hs _ _ e)⟩
theorem Conf.fresh (h : Conf E R S H) (F : Fine H) : R H.next = none ∧ S H.next = none := by
  have g := F.above H.next (Nat.le_refl _)
  constructor
  · cases e : R H.next with
    | none => rfl
    | some cs => obtain ⟨_, h1⟩ := h.frozen _ _ e; rw [g] at h1; cases h1
  · cases e : S H.next with
    | none => rfl
    | some o => obtain ⟨_, ⟨_, h1⟩, _⟩ := h.own _ _ e; rw [g] at h1; cases h1
/-- A heap that keeps all that lives. -/
theorem Conf.stays (h : Conf E R S H) {H' : AHeap} (hs : Stays H H') : Conf E R S H' :=
  ⟨fun k cs e => (h.frozen k cs e).imp fun pre g => hs _ _ _ g, fun k o e => by
    obtain ⟨h1, ⟨pre, h2⟩, h3⟩ := h.own k o e
    exact ⟨h1, ⟨pre, hs _ _ _ h2⟩, h3⟩⟩
theorem Conf.but (h : Conf E R S H) {H' : AHeap} {b : Nat} (hs : But b H H') (hb : R b = none) : Conf E R (S.erase b) H' :=
  ⟨fun k cs e => (h.frozen k cs e).imp fun pre g => hs _ _ _ (fun e' => by subst e'; rw [hb] at e; cases e) g, fun k o e => by
    unfold DSt.erase at e
    split at e
    · cases e
    · rename_i hk
      obtain ⟨h1, ⟨pre, h2⟩, h3⟩ := h.own k o e
      exact ⟨h1, ⟨pre, hs _ _ _ hk h2⟩, h3⟩⟩
theorem Conf.put (h : Conf E R S H) {k : Nat} {o : DObj} (hr : R k = none) {pre : List Nat} (hg : H.get k = some (.cells o.acs true pre)) (hsc : o.acs.all scalar = true) (hl : ∀ row ∈ o.rows, row.length = o.sz) (hp : RpL E R o.rows.flatten o.acs) : Conf E R (S.set k o) H :=
  ⟨h.frozen, fun j x e => by
    unfold DSt.set at e
    split at e
    · rename_i hj; subst hj; cases e; exact ⟨hr, ⟨pre, hg⟩, hsc, hl, hp⟩
    · exact h.own j x e⟩
/-- What is turned no more. -/
theorem Conf.freeze (h : Conf E R S H) {k : Nat} {o : DObj} (hk : S k = some o) : Conf E (fun j => if j = k then some o.acs else R j) (S.erase k) H ∧ R.le fun j => if j = k then some o.acs else R j := by
  obtain ⟨h1, ⟨pre, h2⟩, h3, h4, h5⟩ := h.own k o hk
  have hle : R.le fun j => if j = k then some o.acs else R j := fun j cs e => by
    show (if j = k then some o.acs else R j) = some cs
    rw [if_neg]
    · exact e
    · rintro rfl; rw [h1] at e; cases e
  refine ⟨⟨fun j cs e => ?_, fun j x e => ?_⟩, hle⟩
  · replace e : (if j = k then some o.acs else R j) = some cs := e
    split at e
    · rename_i hj; subst hj; cases e; exact ⟨pre, h2⟩
    · exact h.frozen j cs e
  · unfold DSt.erase at e
    split at e
    · cases e
    · rename_i hj
      obtain ⟨g1, g2, g3, g4, g5⟩ := h.own j x e
      exact ⟨by show (if j = k then some o.acs else R j) = none; rw [if_neg hj]; exact g1, g2, g3, g4, RpL.le hle _ _ g5⟩
theorem Conf.start (H : AHeap) : Conf E (fun _ => Option.none) DSt.none H := ⟨fun k cs e => (by cases e), fun k o e => (by cases e)⟩
end
end Go.Am
end

section
namespace Go.Am
set_option linter.unusedVariables false
set_option linter.unusedSimpArgs false
def ofAV1 : AV → D
  | .bool b => .bool b
  | .int k n => .int k n
  | .str s => .str s
  | .nilPtr => .nilPtr
  | .nilSlc => .nilSlc
  | .nilMap => .nilMap
  | .nilFn => .nilFn
  | .nilIfc => .nilIfc
  | _ => .any
def ofAV : AV → D
  | .agg cs => if cs.all scalar then .agg (cs.map ofAV1) else .any
  | .tup [] => .tup []
  | v => ofAV1 v
def cellsD : D → Option (List D)
  | .any | .tup _ => none
  | .agg cs => some cs
  | d => some [d]
def setManyD : List D → Nat → List D → List D
  | cs, _, [] => cs
  | cs, i, v :: vs => setManyD (cs.set i v) (i + 1) vs
def dEval (T : List D) : Operand → D
  | .tmp t => T.getD t undefD
  | .const v => ofAV (ofVal v)
  | .global _ => .any
  | .func f => .fn (.func f) [] []
/-- The row that a pointer tells of, and the cell in it. -/
def rowAt (S : DSt) : D → Option (List D × Nat)
  | .ptr k i => match S k with
    | some o => match o.rows with
      | [cs] => some (cs, i)
      | _ => none
    | none => none
  | .rel k r i sz => match S k with
    | some o => if o.sz = sz then match o.rows[r]? with
      | some row => some (row, i)
      | none => none
      else none
    | none => none
  | .elt row i => some (row, i)
  | _ => none
def loadAg (S : DSt) (n : Nat) (a : D) : Option D := match rowAt S a with
  | some (row, i) => if 0 < n ∧ i + n ≤ row.length then some (.agg ((row.drop i).take n)) else none
  | none => none
def loadSc (S : DSt) (a : D) : Option D := match rowAt S a with
  | some (row, i) => row[i]?
  | none => none
def footK : D → Option Nat
  | .ptr k _ | .rel k _ _ _ | .raw k _ _ _ _ _ => some k
  | _ => none
def pickD (c a b : D) : Option D := match c with
  | .bool t => some (if t then a else b)
  | _ => none
def nilD : D → Option D
  | .nilPtr | .nilIfc | .nilFn | .any | .fn (.method _) _ _ => none
  | y => some y
def extractD (x : D) (ix : Nat) : Option D := match x with
  | .tup vs => vs[ix]?
  | _ => none
def binI (op : BinOp) (a b : D) : Option D := match a, b with
  | .int k x, .int k' y => match op with
    | .shl => if y < 0 then none else some (.int k (k.wrap (x * 2 ^ (min y.toNat k.bits))))
    | .shr => if y < 0 then none else some (.int k (x.fdiv (2 ^ (min y.toNat k.bits))))
    | _ => if k = k' then (intBinA op k x y).map ofAV1 else none
  | _, _ => none
def binS (op : BinOp) (a b : D) : Option D := match a, b with
  | .str x, .str y => (strBinA op x y).map ofAV1
  | _, _ => none
def eqOp (op : BinOp) (r : Option Bool) : Option D := match op with
  | .eql => r.map .bool
  | .neq => r.map fun b => .bool !b
  | _ => none
def eqBo (a b : D) : Option Bool := match a, b with
  | .bool x, .bool y => some (x == y)
  | _, _ => none
def eqSl (a b : D) : Option Bool := match a, b with
  | .nilSlc, .nilSlc => some true
  | .nilSlc, .lst (_ :: _) _ | .nilSlc, .ext _ _ _ | .nilSlc, .raw _ _ _ _ _ _ | .lst (_ :: _) _, .nilSlc | .ext _ _ _, .nilSlc | .raw _ _ _ _ _ _, .nilSlc => some false
  | _, _ => none
def eqPt (a b : D) : Option Bool := match a, b with
  | .nilPtr, .nilPtr => some true
  | .nilPtr, .ptr _ _ | .nilPtr, .rel _ _ _ _ | .nilPtr, .elt _ _ | .ptr _ _, .nilPtr | .rel _ _ _ _, .nilPtr | .elt _ _, .nilPtr => some false
  | _, _ => none
def eqFn (a b : D) : Option Bool := match a, b with
  | .nilFn, .nilFn => some true
  | .nilFn, .fn _ _ _ | .fn _ _ _, .nilFn => some false
  | _, _ => none
def eqIf (c : Bool) (a b : D) : Option Bool := match a, b with
  | .nilIfc, .nilIfc => if c then some true else none
  | .nilIfc, .ifc _ _ | .ifc _ _, .nilIfc => some false
  | _, _ => none
mutual
def toAV : D → Option AV
  | .bool b => some (.bool b)
  | .int k n => some (.int k n)
  | .str s => some (.str s)
  | .nilPtr => some .nilPtr
  | .nilSlc => some .nilSlc
  | .nilMap => some .nilMap
  | .nilFn => some .nilFn
  | .nilIfc => some .nilIfc
  | .ptr k i => some (.ptr (.new k) i)
  | .agg cs => match toAVL cs with
    | some l => some (.agg l)
    | none => none
  | _ => none
def toAVL : List D → Option (List AV)
  | [] => some []
  | d :: ds => match toAV d, toAVL ds with
    | some v, some vs => some (v :: vs)
    | _, _ => none
end
def eqAg (P : Program) (t : TypeId) (a b : D) : Option Bool := match a, b with
  | .agg x, .agg y => match toAVL x, toAVL y with
    | some x, some y => if P.eqGuardType P.depth t then none else eqA P Op.maxDepth t (.agg x) (.agg y)
    | _, _ => none
  | _, _ => none
def binD (P : Program) (op : BinOp) (t : TypeId) (x y : Operand) (a b : D) : Option D := match P.underlying t with
  | some (.int _) => binI op a b
  | some .string => binS op a b
  | some .bool => eqOp op (eqBo a b)
  | some (.slice _) => eqOp op (eqSl a b)
  | some (.pointer _) => eqOp op (eqPt a b)
  | some (.func ..) => eqOp op (eqFn a b)
  | some (.interface _) => eqOp op (eqIf (Region.isConst x || Region.isConst y) a b)
  | some (.struct _) => eqOp op (eqAg P t a b)
  | _ => none
def unD (op : UnOp) (x : D) : Option D := match op, x with
  | .neg, .int k n => some (.int k (k.wrap (0 - n)))
  | .xor, .int k n => some (.int k (k.wrap (BitVec.ofInt k.bits (if k.signed then -1 else k.max) ^^^ BitVec.ofInt k.bits n).toNat))
  | .not, .bool b => some (.bool !b)
  | _, _ => none
/-- The rows of a slice or of a text. -/
def rowsOf (S : DSt) (sz : Nat) : D → Option (List (List D))
  | .nilSlc => some []
  | .lst rows z => if z = sz then some rows else none
  | .ext rows _ z => if z = sz then some rows else none
  | .raw k i len _ _ z => match S k with
    | some o => if z = sz ∧ o.sz = sz ∧ i + len ≤ o.rows.length then some ((o.rows.drop i).take len) else none
    | none => none
  | _ => none
def byteD : List D → Option UInt8
  | [.int .u8 n] => some (UInt8.ofNat n.toNat)
  | _ => none
def convI (k : IntKind) : D → Option D
  | .int _ n => some (.int k (k.wrap n))
  | _ => none
def convStr : D → Option D
  | .str s => some (.str s)
  | _ => none
def convBS (S : DSt) (x : D) : Option D := match rowsOf S 1 x with
  | some rows => (rows.mapM byteD).map .str
  | none => none
def convD (P : Program) (S : DSt) (src dst : TypeId) (x : D) : Option D := match P.underlying src, P.underlying dst with
  | some (.int _), some (.int k) => convI k x
  | some .string, some .string => convStr x
  | some (.slice e), some .string => match P.underlying e with
    | some (.int .u8) => convBS S x
    | _ => none
  | _, _ => none
def boundD (x : D) (y : Nat) : Option Nat := match x with
  | .int _ i => if 0 ≤ i ∧ i ≤ y then some i.toNat else none
  | _ => none
def topD (cap : Nat) : Option D → Option Nat
  | some v => boundD v cap
  | none => some cap
def highD (len m : Nat) : Option D → Option D → Option Nat
  | some v, _ => boundD v m
  | none, none => some len
  | none, some _ => none
def lowD (h : Nat) : Option D → Option Nat
  | some v => boundD v h
  | none => some 0
def boundsD (len cap : Nat) (low high max : Option D) : Option (Nat × Nat × Nat) :=
  (topD cap max).bind fun m => (highD len m high max).bind fun h => (lowD h low).bind fun l => some (l, h, m)
def sliceStr (x : D) (lo hi : Option D) : Option D := match x with
  | .str s => (boundsD s.length s.length lo hi none).map fun r => .str ((s.drop r.1).take (r.2.1 - r.1))
  | _ => none
/-- A part of a list, with what is within the capacity behind it. -/
def extD (rows more : List (List D)) (sz : Nat) : D := match more with
  | [] => .lst rows sz
  | m => .ext rows m sz
def sliceSl (sz : Nat) (x : D) (lo hi mx : Option D) : Option D := match x with
  | .nilSlc => (boundsD 0 0 lo hi mx).map fun _ => .nilSlc
  | .lst rows z => if z = sz then (boundsD rows.length rows.length lo hi mx).map fun r => extD ((rows.drop r.1).take (r.2.1 - r.1)) ((rows.drop r.2.1).take (r.2.2 - r.2.1)) sz else none
  | .ext rows more z => if z = sz then (boundsD rows.length (rows ++ more).length lo hi mx).map fun r => extD (((rows ++ more).drop r.1).take (r.2.1 - r.1)) (((rows ++ more).drop r.2.1).take (r.2.2 - r.2.1)) sz else none
  | .raw k i len cap ex z => if z = sz then (boundsD len cap lo hi mx).map fun r => .raw k (i + r.1) (r.2.1 - r.1) (r.2.2 - r.1) (ex || mx.isSome) sz else none
  | _ => none
def sliceD (P : Program) (t : TypeId) (x : D) (lo hi mx : Option D) : Option D := match P.underlying t with
  | some .string => match mx with
    | none => sliceStr x lo hi
    | some _ => none
  | some (.slice e) => match sizeA P e with
    | some sz => sliceSl sz x lo hi mx
    | none => none
  | _ => none
def offD (off : Nat) : D → Option D
  | .ptr k i => some (.ptr k (i + off))
  | .rel k r i sz => some (.rel k r (i + off) sz)
  | .elt row i => some (.elt row (i + off))
  | _ => none
def fieldAtD (P : Program) (s : TypeId) (x : D) (field : Nat) : Option D := match fieldOf P s field with
  | some f => match sizeA P f.type with
    | some (_ + 1) => offD f.offset x
    | _ => none
  | none => none
def partAg (off n : Nat) : D → Option D
  | .agg cs => some (.agg ((cs.drop off).take n))
  | _ => none
def partSc (off : Nat) : D → Option D
  | .agg cs => cs[off]?
  | _ => none
def partD (P : Program) (t : TypeId) (off : Nat) (x : D) : Option D := match isAggA P t with
  | some true => match sizeA P t with
    | some n => partAg off n x
    | none => none
  | some false => partSc off x
  | none => none
def fieldD (P : Program) (s : TypeId) (x : D) (field : Nat) : Option D := match fieldOf P s field with
  | some f => partD P f.type f.offset x
  | none => none
def idxSl (sz : Nat) (x ix : D) : Option D := match ix with
  | .int _ n => match x with
    | .lst rows z => if z = sz ∧ 0 ≤ n then match rows[n.toNat]? with
      | some row => some (.elt row 0)
      | none => none
      else none
    | .ext rows _ z => if z = sz ∧ 0 ≤ n then match rows[n.toNat]? with
      | some row => some (.elt row 0)
      | none => none
      else none
    | .raw k i len _ _ z => if z = sz ∧ 0 ≤ n ∧ n < len then some (.rel k (i + n.toNat) 0 sz) else none
    | _ => none
  | _ => none
def idxArr (len sz : Nat) (x ix : D) : Option D := match ix with
  | .int _ n => if 0 ≤ n ∧ n < len then offD (n.toNat * sz) x else none
  | _ => none
def indexAtD (P : Program) (t : TypeId) (x ix : D) : Option D := match P.underlying t with
  | some (.slice e) => match sizeA P e with
    | some sz => idxSl sz x ix
    | none => none
  | some (.array len e) => match sizeA P e with
    | some sz => idxArr len sz x ix
    | none => none
  | _ => none
def idxStr (x ix : D) : Option D := match ix, x with
  | .int _ n, .str s => if 0 ≤ n then match s[n.toNat]? with
    | some b => some (.int .u8 b.toNat)
    | none => none
    else none
  | _, _ => none
def idxAgg (len sz : Nat) (ag : Bool) (x ix : D) : Option D := match ix with
  | .int _ n => if 0 ≤ n ∧ n < len then (match ag with
    | true => partAg (n.toNat * sz) sz x
    | false => partSc (n.toNat * sz) x) else none
  | _ => none
def indexD (P : Program) (t : TypeId) (x ix : D) : Option D := match P.underlying t with
  | some .string => idxStr x ix
  | some (.array len e) => match sizeA P e, isAggA P e with
    | some sz, some ag => idxAgg len sz ag x ix
    | _, _ => none
  | _ => none
def lenStr : D → Option D
  | .str s => some (.int .i64 s.length)
  | _ => none
def lenSl : D → Option D
  | .nilSlc => some (.int .i64 0)
  | .lst rows _ => some (.int .i64 rows.length)
  | .ext rows _ _ => some (.int .i64 rows.length)
  | .raw _ _ len _ _ _ => some (.int .i64 len)
  | _ => none
def lenD (P : Program) (t : TypeId) (x : D) : Option D := match P.underlying t with
  | some .string => lenStr x
  | some (.slice _) => lenSl x
  | some (.array n _) => some (.int .i64 n)
  | _ => none
def capSl : D → Option D
  | .nilSlc => some (.int .i64 0)
  | .raw _ _ _ cap true _ => some (.int .i64 cap)
  | _ => none
def capD (P : Program) (t : TypeId) (x : D) : Option D := match P.underlying t with
  | some (.slice _) => capSl x
  | some (.array n _) => some (.int .i64 n)
  | _ => none
def mmD (isMax : Bool) (x y : D) : Option D := match x, y with
  | .int k a, .int _ b => some (.int k (if isMax then (if b > a then b else a) else (if b < a then b else a)))
  | _, _ => none
def minMaxD (isMax : Bool) : List D → Option D
  | [] => none
  | x :: rest => rest.foldlM (mmD isMax) x
def ifaceD (P : Program) (t : TypeId) (x : D) : Option D := match P.underlying t with
  | some (.interface _) => none
  | some _ => some (.ifc t x)
  | none => none
def asD (t : TypeId) (z : D) (ok : Bool) (x : D) : Option D := match x with
  | .nilIfc => if ok then some (.tup [z, .bool false]) else none
  | .ifc t' v => if t' = t then some (if ok then .tup [v, .bool true] else v) else if ok then some (.tup [z, .bool false]) else none
  | _ => none
def assertD (P : Program) (x : D) (asserted : TypeId) (ok : Bool) : Option D := match P.underlying asserted with
  | some (.interface _) => none
  | some _ => match zeroOf P asserted with
    | some z => asD asserted (ofAV z) ok x
    | none => none
  | none => none
def fillD : List D → List (Nat × Nat × D) → Option (List D)
  | cs, [] => some cs
  | cs, (off, size, v) :: rest => match cellsD v with
    | some ds => if ds.length = size ∧ off + size ≤ cs.length then fillD (setManyD cs off ds) rest else none
    | none => none
def placesD (place : Nat → Option (Nat × Nat)) : List (Nat × D) → Option (List (Nat × Nat × D))
  | [] => some []
  | (i, v) :: rest => match place i with
    | some (off, size) => match placesD place rest with
      | some l => some ((off, size, v) :: l)
      | none => none
    | none => none
def aggD (r : Option (List D)) : Option D := match r with
  | some cs => some (.agg cs)
  | none => none
def buildD (P : Program) (t : TypeId) (parts : List (Nat × D)) : Option D := match zeroOf P t with
  | some (.agg z) => if z.all scalar then match P.underlying t with
    | some (.struct fields) => match fields.toList.mapM fun f => (sizeA P f.type).map fun s => (f.offset, s) with
      | some places => match placesD (places[·]?) parts with
        | some l => aggD (fillD (z.map ofAV1) l)
        | none => none
      | none => none
    | some (.array _ e) => match sizeA P e with
      | some size => match placesD (fun i => some (i * size, size)) parts with
        | some l => aggD (fillD (z.map ofAV1) l)
        | none => none
      | none => none
    | _ => none
    else none
  | _ => none
def loadD (P : Program) (S : DSt) (t : TypeId) (a : D) : Option D := match isAggA P t with
  | some true => match sizeA P t with
    | some n => loadAg S n a
    | none => none
  | some false => loadSc S a
  | none => none
/-- The value of an operation that turns nothing. -/
def opVD (P : Program) (T : List D) (S : DSt) (o : Oper) : Option D :=
  match o.op with
  | .move x | .assign x => some (dEval T x)
  | .pick c a b => pickD (dEval T c) (dEval T a) (dEval T b)
  | .build t parts => buildD P t (parts.toList.map fun p => (p.1, dEval T p.2))
  | .load t a => loadD P S t (dEval T a)
  | .nilCheck x => nilD (dEval T x)
  | .binOp op t x y _ => binD P op t x y (dEval T x) (dEval T y)
  | .unOp op _ x => unD op (dEval T x)
  | .convert src dst x => convD P S src dst (dEval T x)
  | .makeInterface t x => ifaceD P t (dEval T x)
  | .makeFunc fn first captured => some (.fn fn (first.toList.map (dEval T)) (captured.toList.map (dEval T)))
  | .slice t x lo hi mx => sliceD P t (dEval T x) (lo.map (dEval T)) (hi.map (dEval T)) (mx.map (dEval T))
  | .fieldAddr s x f => fieldAtD P s (dEval T x) f
  | .field s x f => fieldD P s (dEval T x) f
  | .indexAddr t x ix => indexAtD P t (dEval T x) (dEval T ix)
  | .index t x ix => indexD P t (dEval T x) (dEval T ix)
  | .typeAssert x _ asserted ok => assertD P (dEval T x) asserted ok
  | .extract t ix => extractD (dEval T t) ix
  | .call c => match c.callee with
    | .builtin b => match b, c.args.toList.map (dEval T), c.argTypes.toList with
      | .len, [x], [t] => lenD P t x
      | .cap, [x], [t] => capD P t x
      | .min, l, _ => minMaxD false l
      | .max, l, _ => minMaxD true l
      | _, _, _ => none
    | _ => none
  | _ => none
def footOf (T : List D) (o : Oper) : Option Nat := match o.op with
  | .load _ a => footK (dEval T a)
  | .convert _ _ x => footK (dEval T x)
  | _ => none
/-- A heap in which what is read is as told. -/
structure Agr (R : Fz) (S : DSt) (k : Option Nat) (H : AHeap) : Prop where
  fz : ∀ j cs, R j = some cs → ∃ w p, H.get j = some (.cells cs w p)
  st : ∀ j o, k = some j → S j = some o → ∃ w p, H.get j = some (.cells o.acs w p)
theorem Conf.agr {E : Env} {R : Fz} {S : DSt} {H : AHeap} (h : Conf E R S H) (k : Option Nat) : Agr R S k H :=
  ⟨fun j cs e => let ⟨pre, g⟩ := h.frozen j cs e; ⟨_, pre, g⟩, fun j o _ e => let ⟨_, ⟨pre, g⟩, _⟩ := h.own j o e; ⟨_, pre, g⟩⟩
end Go.Am
end

section
namespace Go.Am
set_option linter.unusedVariables false
set_option linter.unusedSimpArgs false
section
variable {P : Program} {E : Env} {R : Fz} {S : DSt} {H0 : AHeap}
theorem rp_ofAV1 {v : AV} : Rp E R (ofAV1 v) v := by
  cases v <;> simp only [ofAV1, Rp]
theorem rpL_ofAV1 : ∀ l : List AV, RpL E R (l.map ofAV1) l
  | [] => rpL_nil
  | v :: l => rpL_cons rp_ofAV1 (rpL_ofAV1 l)
theorem rp_ofAV {v : AV} : Rp E R (ofAV v) v := by
  unfold ofAV
  split
  · rename_i cs
    split
    · rename_i h
      simp only [Rp]
      exact ⟨cs, rfl, rpL_ofAV1 cs, h⟩
    · simp only [Rp]
  · exact rp_undef
  · exact rp_ofAV1
theorem rp_eval {T : List D} {avs : List AV} (h : RpL E R T avs) (x : Operand) : Rp E R (dEval T x) (aEval avs x) := by
  cases x with
  | tmp t => exact rpL_getD h t
  | const v => exact rp_ofAV
  | global g => simp only [dEval, Rp]
  | func f =>
    simp only [dEval, aEval, Rp]
    exact ⟨[], [], rfl, rpL_nil, rpL_nil⟩
theorem rpL_eval {T : List D} {avs : List AV} (h : RpL E R T avs) : ∀ l : List Operand, RpL E R (l.map (dEval T)) (l.map (aEval avs))
  | [] => rpL_nil
  | x :: l => rpL_cons (rp_eval h x) (rpL_eval h l)
/-- A value's cells. -/
theorem rp_cells {d : D} {v : AV} (h : Rp E R d v) {ds : List D} (hc : cellsD d = some ds) : RpL E R ds v.cells ∧ v.cells.all scalar = true := by
  cases d <;> simp only [cellsD, Option.some.injEq] at hc <;> try (cases hc; done)
  case agg cs =>
    subst hc
    simp only [Rp] at h
    obtain ⟨vs, rfl, h1, h2⟩ := h
    exact ⟨h1, h2⟩
  all_goals
    subst hc
    have hR := h
    simp only [Rp] at h
    first
      | (subst h; exact ⟨rpL_cons hR rpL_nil, rfl⟩)
      | (rcases h with ⟨_, rfl⟩ | ⟨o, j, cap, ex, z, rfl, _⟩ <;> exact ⟨rpL_cons hR rpL_nil, rfl⟩)
      | (obtain ⟨o, j, cap, ex, z, all, rfl, _⟩ := h; exact ⟨rpL_cons hR rpL_nil, rfl⟩)
      | (obtain ⟨o, j, all, rfl, _⟩ := h; exact ⟨rpL_cons hR rpL_nil, rfl⟩)
      | (obtain ⟨a', b', rfl, _⟩ := h; exact ⟨rpL_cons hR rpL_nil, rfl⟩)
      | (obtain ⟨v', rfl, _⟩ := h; exact ⟨rpL_cons hR rpL_nil, rfl⟩)
theorem agr_cells {o : Id} {all : List AV} (h : rdE E R o = some all) {k : Option Nat} {H : AHeap} (hA : Agr R S k H) : cellsOf E H o = some all := by
  cases o with
  | old b => exact h
  | new j =>
    obtain ⟨w, p, g⟩ := hA.fz j all h
    simp only [cellsOf, g]
theorem all_drop {l : List AV} (h : l.all scalar = true) (n : Nat) : (l.drop n).all scalar = true :=
  List.all_eq_true.2 fun x hx => List.all_eq_true.1 h x (List.mem_of_mem_drop hx)
theorem all_take {l : List AV} (h : l.all scalar = true) (n : Nat) : (l.take n).all scalar = true :=
  List.all_eq_true.2 fun x hx => List.all_eq_true.1 h x (List.mem_of_mem_take hx)
theorem rowAt_ok (hC : Conf E R S H0) {a : D} {v : AV} (h : Rp E R a v) {row : List D} {i : Nat} (hr : rowAt S a = some (row, i)) :
    ∃ o j all, v = .ptr o (j + i) ∧ RpL E R row ((all.drop j).take row.length) ∧ ((all.drop j).take row.length).all scalar = true ∧ ∀ H, Agr R S (footK a) H → cellsOf E H o = some all := by
  cases a <;> simp only [rowAt] at hr <;> try (cases hr; done)
  case ptr k j =>
    simp only [Rp] at h
    subst h
    cases hk : S k with
    | none => rw [hk] at hr; cases hr
    | some o =>
      simp only [hk] at hr
      obtain ⟨h1, ⟨pre, h2⟩, h3, h4, h5⟩ := hC.own k o hk
      split at hr
      · rename_i cs hcs
        cases hr
        rw [hcs, List.flatten_singleton] at h5
        have e : o.acs.take row.length = o.acs := List.take_of_length_le (by rw [h5.length]; exact Nat.le_refl _)
        refine ⟨.new k, 0, o.acs, by rw [Nat.zero_add], ?_, ?_, fun H hA => ?_⟩
        · rw [List.drop_zero, e]; exact h5
        · rw [List.drop_zero, e]; exact h3
        · obtain ⟨w, p, g⟩ := hA.st k o rfl hk
          simp only [cellsOf, g]
      · cases hr
  case rel k r j sz =>
    simp only [Rp] at h
    subst h
    cases hk : S k with
    | none => rw [hk] at hr; cases hr
    | some o =>
      simp only [hk] at hr
      obtain ⟨h1, ⟨pre, h2⟩, h3, h4, h5⟩ := hC.own k o hk
      split at hr
      · rename_i hsz
        split at hr
        · rename_i row' hrow
          cases hr
          have hl : row.length = sz := by rw [h4 row (List.mem_of_getElem? hrow), hsz]
          refine ⟨.new k, r * sz, o.acs, rfl, ?_, all_take (all_drop h3 _) _, fun H hA => ?_⟩
          · have := (h5.drop (r * sz)).take row.length
            rw [← hsz] at this hl ⊢
            rw [hl, flat_row h4 hrow] at this
            rw [hl]
            exact this
          · obtain ⟨w, p, g⟩ := hA.st k o rfl hk
            simp only [cellsOf, g]
        · cases hr
      · cases hr
  case elt row' j =>
    cases hr
    simp only [Rp] at h
    obtain ⟨o, j', all, rfl, e2, e3, e4⟩ := h
    exact ⟨o, j', all, rfl, e3, e4, fun H hA => agr_cells e2 hA⟩
theorem take_part {α : Type} {all : List α} {j L i n : Nat} (h : i + n ≤ L) : (all.drop (j + i)).take n = (((all.drop j).take L).drop i).take n := by
  rw [List.drop_take, List.take_take, List.drop_drop, Nat.min_eq_left (by omega)]
theorem load_ok (hC : Conf E R S H0) {t : TypeId} {a : D} {v : AV} (h : Rp E R a v) {d : D} (hd : loadD P S t a = some d) :
    ∃ x, Rp E R d x ∧ ∀ H, Agr R S (footK a) H → loadV P E H t v = some x := by
  unfold loadD at hd
  cases hg : isAggA P t with
  | none => rw [hg] at hd; cases hd
  | some b =>
    rw [hg] at hd
    cases b with
    | true =>
      cases hs : sizeA P t with
      | none => rw [hs] at hd; cases hd
      | some n =>
        simp only [hs, loadAg] at hd
        split at hd
        · rename_i row i hrow
          split at hd
          · rename_i hn
            cases hd
            obtain ⟨o, j, all, rfl, h1, h2, h3⟩ := rowAt_ok hC h hrow
            have hl := h1.length
            rw [List.length_take, List.length_drop] at hl
            refine ⟨.agg ((all.drop (j + i)).take n), ?_, fun H hA => ?_⟩
            · rw [take_part hn.2]
              simp only [Rp]
              exact ⟨_, rfl, (h1.drop i).take n, all_take (all_drop h2 i) n⟩
            · show loadVarA P E H t o (j + i) = _
              simp only [loadVarA, hg, hs, Option.pure_def, Option.bind_eq_bind, Option.bind_some, if_true, loadRange, h3 H hA]
              rw [if_pos (by omega)]
              rfl
          · cases hd
        · cases hd
    | false =>
      simp only [loadSc] at hd
      split at hd
      · rename_i row i hrow
        obtain ⟨o, j, all, rfl, h1, h2, h3⟩ := rowAt_ok hC h hrow
        obtain ⟨x, e1, e2⟩ := rpL_get h1 hd
        refine ⟨x, e2, fun H hA => ?_⟩
        show loadVarA P E H t o (j + i) = _
        simp only [loadVarA, hg, Option.pure_def, Option.bind_eq_bind, Option.bind_some, Bool.false_eq_true, if_false, loadCell, h3 H hA]
        rw [List.getElem?_take] at e1
        split at e1
        · rw [List.getElem?_drop] at e1; exact e1
        · cases e1
      · cases hd
theorem pick_ok {c a b : D} {vc va vb : AV} (hc : Rp E R c vc) (ha : Rp E R a va) (hb : Rp E R b vb) {d : D} (h : pickD c a b = some d) : ∃ x, Rp E R d x ∧ pickV vc va vb = some x := by
  cases c <;> simp only [pickD] at h <;> try (cases h; done)
  case bool t =>
    cases h
    simp only [Rp] at hc
    subst hc
    refine ⟨_, ?_, rfl⟩
    cases t
    · exact hb
    · exact ha
theorem nil_ok {c : D} {v : AV} (hc : Rp E R c v) {d : D} (h : nilD c = some d) : Rp E R d v ∧ nilV v = some v := by
  cases c <;> simp only [nilD] at h <;> try (cases h; done)
  case fn f a b =>
    have hR := hc
    simp only [Rp] at hc
    obtain ⟨a', b', rfl, _⟩ := hc
    cases f <;> simp at h <;> (subst h; exact ⟨hR, rfl⟩)
  all_goals
    cases h
    have hR := hc
    simp only [Rp] at hc
    first
      | (subst hc; exact ⟨hR, rfl⟩)
      | (rcases hc with ⟨_, rfl⟩ | ⟨o, j, cap, ex, z, rfl, _⟩ <;> exact ⟨hR, rfl⟩)
      | (obtain ⟨o, j, cap, ex, z, all, rfl, _⟩ := hc; exact ⟨hR, rfl⟩)
      | (obtain ⟨o, j, all, rfl, _⟩ := hc; exact ⟨hR, rfl⟩)
      | (obtain ⟨v', rfl, _⟩ := hc; exact ⟨hR, rfl⟩)
theorem extract_ok {c : D} {v : AV} (hc : Rp E R c v) {ix : Nat} {d : D} (h : extractD c ix = some d) : ∃ x, Rp E R d x ∧ extractV v ix = some x := by
  cases c <;> simp only [extractD] at h <;> try (cases h; done)
  case tup vs =>
    simp only [Rp] at hc
    obtain ⟨ws, rfl, h1⟩ := hc
    obtain ⟨x, e1, e2⟩ := rpL_get h1 h
    exact ⟨x, e2, e1⟩
theorem strBin_ok {op : BinOp} {x y : List UInt8} {d : D} (h : (strBinA op x y).map ofAV1 = some d) : ∃ v, Rp E R d v ∧ strBinA op x y = some v := by
  cases hs : strBinA op x y with
  | none => rw [hs] at h; cases h
  | some v => rw [hs] at h; cases h; exact ⟨v, rp_ofAV1, rfl⟩
theorem eqOp_ok {op : BinOp} {r : Option Bool} {d : D} (h : eqOp op r = some d) : ∃ b, r = some b ∧ ((op = .eql ∧ d = .bool b) ∨ (op = .neq ∧ d = .bool !b)) := by
  cases op <;> simp only [eqOp] at h <;> try (cases h; done)
  all_goals
    cases r with
    | none => cases h
    | some b => cases h; exact ⟨b, rfl, by simp⟩
theorem binG_ok {op : BinOp} {t : TypeId} {x y : Operand} {a b : AV} {r : Bool} {d : D} (hd : (op = .eql ∧ d = .bool r) ∨ (op = .neq ∧ d = .bool !r)) (hg : guardOkA P op t x y a b = true)
    (hi : ∀ k n k' m, ¬ (a = .int k n ∧ b = .int k' m)) (hs : ∀ s u, ¬ (a = .str s ∧ b = .str u)) (he : eqA P Op.maxDepth t a b = some r) : ∃ v, Rp E R d v ∧ binV P op t x y a b = some v := by
  have hb : ∀ op, (op = BinOp.eql ∨ op = .neq) → binA P op t a b = match op with
      | .eql => (eqA P Op.maxDepth t a b).map .bool
      | .neq => (eqA P Op.maxDepth t a b).map fun r => .bool !r
      | _ => none := by
    intro op ho
    unfold binA
    split
    · exact (hi _ _ _ _ ⟨rfl, rfl⟩).elim
    · exact (hs _ _ ⟨rfl, rfl⟩).elim
    · rfl
  unfold binV
  rw [if_pos hg]
  rcases hd with ⟨rfl, rfl⟩ | ⟨rfl, rfl⟩
  · refine ⟨.bool r, by simp only [Rp], ?_⟩
    rw [hb _ (.inl rfl), he]; rfl
  · refine ⟨.bool !r, by simp only [Rp], ?_⟩
    rw [hb _ (.inr rfl), he]; rfl
mutual
theorem toAV_ok : ∀ {d : D} {v x : AV}, Rp E R d v → toAV d = some x → v = x
  | .any, v, x, _, e => by cases e
  | .bool b, v, x, h, e => by simp only [Rp] at h; cases e; exact h
  | .int k n, v, x, h, e => by simp only [Rp] at h; cases e; exact h
  | .str s, v, x, h, e => by simp only [Rp] at h; cases e; exact h
  | .nilPtr, v, x, h, e => by simp only [Rp] at h; cases e; exact h
  | .nilSlc, v, x, h, e => by simp only [Rp] at h; cases e; exact h
  | .nilMap, v, x, h, e => by simp only [Rp] at h; cases e; exact h
  | .nilFn, v, x, h, e => by simp only [Rp] at h; cases e; exact h
  | .nilIfc, v, x, h, e => by simp only [Rp] at h; cases e; exact h
  | .ptr k i, v, x, h, e => by simp only [Rp] at h; cases e; exact h
  | .rel .., v, x, h, e => by cases e
  | .elt .., v, x, h, e => by cases e
  | .lst .., v, x, h, e => by cases e
  | .ext .., v, x, h, e => by cases e
  | .raw .., v, x, h, e => by cases e
  | .fn .., v, x, h, e => by cases e
  | .ifc .., v, x, h, e => by cases e
  | .tup .., v, x, h, e => by cases e
  | .agg cs, v, x, h, e => by
    simp only [Rp] at h
    obtain ⟨vs, rfl, h1, h2⟩ := h
    simp only [toAV] at e
    split at e
    · rename_i l hl
      cases e
      rw [toAVL_ok h1 hl]
    · cases e
theorem toAVL_ok : ∀ {ds : List D} {vs xs : List AV}, RpL E R ds vs → toAVL ds = some xs → vs = xs
  | [], vs, xs, h, e => by simp only [RpL] at h; cases e; exact h
  | d :: ds, vs, xs, h, e => by
    simp only [RpL] at h
    obtain ⟨v, ws, rfl, h1, h2⟩ := h
    simp only [toAVL] at e
    split at e
    · rename_i a b ha hb
      cases e
      rw [toAV_ok h1 ha, toAVL_ok h2 hb]
    · cases e
end
theorem bin_ok {op : BinOp} {t : TypeId} {x y : Operand} {a b : D} {va vb : AV} (ha : Rp E R a va) (hb : Rp E R b vb) {d : D} (h : binD P op t x y a b = some d) : ∃ v, Rp E R d v ∧ binV P op t x y va vb = some v := by
  unfold binD at h
  split at h
  · -- numbers
    cases a <;> simp only [binI] at h <;> try (cases h; done)
    rename_i k n
    cases b <;> simp only at h <;> try (cases h; done)
    rename_i k' m
    simp only [Rp] at ha hb
    subst ha hb
    have hg : guardOkA P op t x y (.int k n) (.int k' m) = true := by cases op <;> rfl
    unfold binV
    rw [if_pos hg]
    simp only [binA]
    cases op
    case shl =>
      simp only at h ⊢
      split at h
      · cases h
      · rename_i h0; cases h; rw [if_neg h0]; exact ⟨_, by simp only [Rp], rfl⟩
    case shr =>
      simp only at h ⊢
      split at h
      · cases h
      · rename_i h0; cases h; rw [if_neg h0]; exact ⟨_, by simp only [Rp], rfl⟩
    all_goals
      simp only at h ⊢
      split at h
      · rename_i hk
        rw [if_pos hk]
        cases hr : intBinA _ k n m with
        | none => rw [hr] at h; cases h
        | some v => rw [hr] at h; cases h; exact ⟨v, rp_ofAV1, rfl⟩
      · cases h
  · -- texts
    cases a <;> simp only [binS] at h <;> try (cases h; done)
    rename_i s
    cases b <;> simp only at h <;> try (cases h; done)
    rename_i u
    simp only [Rp] at ha hb
    subst ha hb
    have hg : guardOkA P op t x y (.str s) (.str u) = true := by cases op <;> rfl
    unfold binV
    rw [if_pos hg]
    exact strBin_ok h
  · -- bools
    rename_i hu
    obtain ⟨r, hr, hd⟩ := eqOp_ok h
    cases a <;> simp only [eqBo] at hr <;> try (cases hr; done)
    cases b <;> simp only at hr <;> try (cases hr; done)
    simp only [Rp] at ha hb
    subst ha hb
    cases hr
    exact binG_ok hd (by rcases hd with ⟨rfl, _⟩ | ⟨rfl, _⟩ <;> rfl) (by simp) (by simp) (by simp only [Op.maxDepth, eqA, hu])
  · -- slices
    rename_i e hu
    obtain ⟨r, hr, hd⟩ := eqOp_ok h
    unfold eqSl at hr
    split at hr <;> try (cases hr; done)
    all_goals
      cases hr
      simp only [Rp] at ha hb
      try (rcases ha with ⟨e0, _⟩ | ⟨o, j, cap, ex, z, rfl, _⟩; · cases e0)
      try (rcases hb with ⟨e0, _⟩ | ⟨o, j, cap, ex, z, rfl, _⟩; · cases e0)
      try (obtain ⟨o, j, cap, ex, z, all, rfl, _⟩ := ha)
      try (obtain ⟨o, j, cap, ex, z, all, rfl, _⟩ := hb)
      try subst ha
      try subst hb
      exact binG_ok hd (by rcases hd with ⟨rfl, _⟩ | ⟨rfl, _⟩ <;> rfl) (by simp) (by simp) (by simp only [Op.maxDepth, eqA, hu])
  · -- pointers
    rename_i e hu
    obtain ⟨r, hr, hd⟩ := eqOp_ok h
    cases a <;> simp only [eqPt] at hr <;> try (cases hr; done)
    all_goals
      cases b <;> simp only at hr <;> try (cases hr; done)
      all_goals
        cases hr
        simp only [Rp] at ha hb
        try (obtain ⟨o, j, all, rfl, _⟩ := ha)
        try (obtain ⟨o, j, all, rfl, _⟩ := hb)
        try subst ha
        try subst hb
        exact binG_ok hd (by rcases hd with ⟨rfl, _⟩ | ⟨rfl, _⟩ <;> rfl) (by simp) (by simp) (by simp only [Op.maxDepth, eqA, hu])
  · -- functions
    rename_i hu
    obtain ⟨r, hr, hd⟩ := eqOp_ok h
    cases a <;> simp only [eqFn] at hr <;> try (cases hr; done)
    all_goals
      cases b <;> simp only at hr <;> try (cases hr; done)
      all_goals
        cases hr
        simp only [Rp] at ha hb
        try (obtain ⟨a', b', rfl, _⟩ := ha)
        try (obtain ⟨a', b', rfl, _⟩ := hb)
        try subst ha
        try subst hb
        exact binG_ok hd (by rcases hd with ⟨rfl, _⟩ | ⟨rfl, _⟩ <;> rfl) (by simp) (by simp) (by simp only [Op.maxDepth, eqA, hu])
  · -- interfaces
    rename_i e hu
    obtain ⟨r, hr, hd⟩ := eqOp_ok h
    cases a <;> simp only [eqIf] at hr <;> try (cases hr; done)
    · cases b <;> simp only at hr <;> try (cases hr; done)
      · split at hr
        · rename_i hc
          cases hr
          simp only [Rp] at ha hb
          subst ha hb
          exact binG_ok hd (by rcases hd with ⟨rfl, _⟩ | ⟨rfl, _⟩ <;> exact hc) (by simp) (by simp) (by simp only [Op.maxDepth, eqA, hu])
        · cases hr
      · cases hr
        simp only [Rp] at ha hb
        obtain ⟨v', rfl, _⟩ := hb
        subst ha
        exact binG_ok hd (by rcases hd with ⟨rfl, _⟩ | ⟨rfl, _⟩ <;> rfl) (by simp) (by simp) (by simp only [Op.maxDepth, eqA, hu])
    · cases b <;> simp only at hr <;> try (cases hr; done)
      cases hr
      simp only [Rp] at ha hb
      obtain ⟨v', rfl, _⟩ := ha
      subst hb
      exact binG_ok hd (by rcases hd with ⟨rfl, _⟩ | ⟨rfl, _⟩ <;> rfl) (by simp) (by simp) (by simp only [Op.maxDepth, eqA, hu])
  · -- structs
    rename_i e hu
    obtain ⟨r, hr, hd⟩ := eqOp_ok h
    cases a <;> simp only [eqAg] at hr <;> try (cases hr; done)
    cases b <;> simp only at hr <;> try (cases hr; done)
    rename_i xs ys
    split at hr
    · rename_i xa ya hx hy
      split at hr
      · cases hr
      · rename_i hg
        have e1 := toAV_ok ha (x := .agg xa) (by simp only [toAV, hx])
        have e2 := toAV_ok hb (x := .agg ya) (by simp only [toAV, hy])
        subst e1 e2
        have hg' : P.eqGuardType P.depth t = false := by simpa using hg
        exact binG_ok hd (by rcases hd with ⟨rfl, _⟩ | ⟨rfl, _⟩ <;> simp only [guardOkA, hg', Bool.not_false]) (by simp) (by simp) hr
    · cases hr
  · cases h
theorem un_ok {op : UnOp} {a : D} {v : AV} (ha : Rp E R a v) {d : D} (h : unD op a = some d) : ∃ x, Rp E R d x ∧ unA op v = some x := by
  cases op <;> cases a <;> simp only [unD] at h <;> try (cases h; done)
  all_goals
    cases h
    simp only [Rp] at ha
    subst ha
    exact ⟨_, by simp only [Rp], rfl⟩
end
end Go.Am
end
