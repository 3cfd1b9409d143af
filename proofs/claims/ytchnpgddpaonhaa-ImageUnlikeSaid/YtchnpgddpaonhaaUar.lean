/-
  Texts Dd, as far as they are used.
-/
import Derived.Test.YtchnpgddpaonhaaUaq
section
namespace Go.Am
set_option linter.unusedVariables false
set_option linter.unusedSimpArgs false
section
variable {P : Program} {E : Env} {R : Fz} {S : DSt} {H0 : AHeap}
theorem bound_ok {x : D} {v : AV} (h : Rp E R x v) {y n : Nat} (hb : boundD x y = some n) : boundA v y = some n ∧ n ≤ y := by
  cases x <;> simp only [boundD] at hb <;> try (cases hb; done)
  simp only [Rp] at h
  subst h
  split at hb
  · rename_i hn
    cases hb
    exact ⟨by simp only [boundA]; rw [if_pos hn], by omega⟩
  · cases hb
def RpO (E : Env) (R : Fz) : Option D → Option AV → Prop
  | none, none => True
  | some d, some v => Rp E R d v
  | _, _ => False
theorem bounds_ok {lo hi mx : Option D} {vlo vhi vmx : Option AV} (h1 : RpO E R lo vlo) (h2 : RpO E R hi vhi) (h3 : RpO E R mx vmx) {len cap cap' l h m : Nat} (hlc : len ≤ cap)
    (e : boundsD len cap lo hi mx = some (l, h, m)) (hc : cap ≤ cap') (hx : mx = none → hi = none ∨ True) :
    ∃ m', boundsA len cap' vlo vhi vmx = some (l, h, m') ∧ l ≤ h ∧ h ≤ cap ∧ h ≤ m' ∧ (m' = m ∨ (mx = none ∧ m' = cap' ∧ m = cap)) := by
  unfold boundsD at e
  cases ht : topD cap mx with
  | none => rw [ht] at e; cases e
  | some m0 =>
    rw [ht, Option.bind_some] at e
    cases hh : highD len m0 hi mx with
    | none => rw [hh] at e; cases e
    | some h0 =>
      rw [hh, Option.bind_some] at e
      cases hl : lowD h0 lo with
      | none => rw [hl] at e; cases e
      | some l0 =>
        rw [hl, Option.bind_some] at e
        cases e
        have low : lowA h vlo = some l ∧ l ≤ h := by
          cases lo with
          | none =>
            cases vlo with
            | none => cases hl; exact ⟨rfl, Nat.zero_le _⟩
            | some v => exact h1.elim
          | some d =>
            cases vlo with
            | none => exact h1.elim
            | some v => exact bound_ok h1 hl
        cases mx with
        | none =>
          cases vmx with
          | some v => exact h3.elim
          | none =>
            cases ht
            have high : highA len cap' vhi none = some h ∧ h ≤ cap := by
              cases hi with
              | none =>
                cases vhi with
                | some v => exact h2.elim
                | none => cases hh; exact ⟨rfl, hlc⟩
              | some d =>
                cases vhi with
                | none => exact h2.elim
                | some v =>
                  have hh' : boundD d cap = some h := hh
                  obtain ⟨a, b⟩ := bound_ok h2 hh'
                  refine ⟨?_, b⟩
                  show boundA v cap' = some h
                  cases v <;> simp only [boundA] at a ⊢ <;> try (cases a; done)
                  split at a
                  · cases a; rw [if_pos (by omega)]
                  · cases a
            refine ⟨cap', ?_, low.2, high.2, by omega, .inr ⟨rfl, rfl, rfl⟩⟩
            simp only [boundsA, topA, Option.bind_some, high.1, low.1]
        | some dm =>
          cases vmx with
          | none => exact h3.elim
          | some vm =>
            have ht' : boundD dm cap = some m := ht
            obtain ⟨a, b⟩ := bound_ok h3 ht'
            have a' : boundA vm cap' = some m := by
              cases vm <;> simp only [boundA] at a ⊢ <;> try (cases a; done)
              split at a
              · cases a; rw [if_pos (by omega)]
              · cases a
            cases hi with
            | none => cases hh
            | some d =>
              cases vhi with
              | none => exact h2.elim
              | some v =>
                obtain ⟨c, d'⟩ := bound_ok h2 (show boundD d m = some h from hh)
                refine ⟨m, ?_, low.2, by omega, d', .inl rfl⟩
                show (topA cap' (some vm)).bind _ = _
                rw [show topA cap' (some vm) = some m from a', Option.bind_some, show highA len m (some v) (some vm) = some h from c, Option.bind_some, low.1, Option.bind_some]
theorem bounds_top {lo hi mx : Option D} {len cap l h m : Nat} (e : boundsD len cap lo hi mx = some (l, h, m)) : m ≤ cap := by
  unfold boundsD at e
  cases ht : topD cap mx with
  | none => rw [ht] at e; cases e
  | some m0 =>
    rw [ht, Option.bind_some] at e
    have hm : m0 ≤ cap := by
      cases mx with
      | none => cases ht; exact Nat.le_refl _
      | some d =>
        replace ht : boundD d cap = some m0 := ht
        unfold boundD at ht
        split at ht
        · split at ht
          · cases ht; omega
          · cases ht
        · cases ht
    cases hh : highD len m0 hi mx with
    | none => rw [hh] at e; cases e
    | some h0 =>
      rw [hh, Option.bind_some] at e
      cases hl : lowD h0 lo with
      | none => rw [hl] at e; cases e
      | some l0 => rw [hl, Option.bind_some] at e; cases e; exact hm
theorem rows_take {rows : List (List D)} {sz : Nat} (h : ∀ row ∈ rows, row.length = sz) {all : List AV} {j : Nat} (hr : RpLL E R rows ((all.drop j).take (rows.length * sz))) (hs : ((all.drop j).take (rows.length * sz)).all scalar = true) (l n : Nat) (hn : l + n ≤ rows.length) :
    RpLL E R ((rows.drop l).take n) ((all.drop (j + l * sz)).take (((rows.drop l).take n).length * sz)) ∧ ((all.drop (j + l * sz)).take (((rows.drop l).take n).length * sz)).all scalar = true := by
  have hlen : ((rows.drop l).take n).length = n := by rw [List.length_take, List.length_drop]; omega
  have hle : l * sz + n * sz ≤ rows.length * sz := by rw [← Nat.add_mul]; exact Nat.mul_le_mul_right _ hn
  have e : (all.drop (j + l * sz)).take (n * sz) = (((all.drop j).take (rows.length * sz)).drop (l * sz)).take (n * sz) := take_part hle
  have hd : ∀ row ∈ rows.drop l, row.length = sz := fun row hx => h row (List.mem_of_mem_drop hx)
  rw [hlen, e]
  refine ⟨?_, all_take (all_drop hs _) _⟩
  rw [rpLL_iff, ← flat_take hd, ← flat_drop h]
  exact ((rpLL_iff.1 hr).drop _).take _
theorem rp_part {rows : List (List D)} {sz : Nat} (h : ∀ row ∈ rows, row.length = sz) {o : Id} {all : List AV} {j z : Nat} (ho : rdE E R o = some all) (hf : fitsD o z sz) (hr : RpLL E R rows ((all.drop j).take (rows.length * sz))) (hs : ((all.drop j).take (rows.length * sz)).all scalar = true)
    {l hh m m' : Nat} (h1 : l ≤ hh) (h2 : hh ≤ m) (h3 : m ≤ rows.length) (h4 : m ≤ m') (ex : Bool) :
    Rp E R (extD ((rows.drop l).take (hh - l)) ((rows.drop hh).take (m - hh)) sz) (.slc o (j + l * sz) (hh - l) (m' - l) ex z) := by
  have hl' : ((rows.drop l).take (hh - l)).length = hh - l := by rw [List.length_take, List.length_drop]; omega
  have hm' : ((rows.drop hh).take (m - hh)).length = m - hh := by rw [List.length_take, List.length_drop]; omega
  have hrl : ∀ row ∈ (rows.drop l).take (hh - l), row.length = sz := fun row hr => h row (List.mem_of_mem_drop (List.mem_of_mem_take hr))
  have hrm : ∀ row ∈ (rows.drop hh).take (m - hh), row.length = sz := fun row hr => h row (List.mem_of_mem_drop (List.mem_of_mem_take hr))
  have p1 := rows_take h hr hs l (hh - l) (by omega)
  have p2 := rows_take h hr hs hh (m - hh) (by omega)
  have p3 := rows_take h hr hs l (m - l) (by omega)
  unfold extD
  split
  · simp only [Rp]
    exact .inr ⟨o, j + l * sz, m' - l, ex, z, by rw [hl'], hf, by rw [hl']; omega, hrl, .inr ⟨all, ho, p1⟩⟩
  · skip
    simp only [Rp]
    refine ⟨o, j + l * sz, m' - l, ex, z, all, by rw [hl'], hf, by rw [hl', hm']; omega, hrl, hrm, .inl ho, p1.1, ?_, ?_⟩
    · have e : j + l * sz + ((rows.drop l).take (hh - l)).length * sz = j + hh * sz := by rw [hl', Nat.add_assoc, ← Nat.add_mul]; congr 2; omega
      rw [e]; exact p2.1
    · have e : ((rows.drop l).take (hh - l)).length + ((rows.drop hh).take (m - hh)).length = ((rows.drop l).take (m - l)).length := by
        rw [hl', hm', List.length_take, List.length_drop]; omega
      rw [e]; exact p3.2
theorem rpLL_app {rows more : List (List D)} {sz : Nat} {all : List AV} {j : Nat} (h1 : RpLL E R rows ((all.drop j).take (rows.length * sz))) (h2 : RpLL E R more ((all.drop (j + rows.length * sz)).take (more.length * sz))) : RpLL E R (rows ++ more) ((all.drop j).take ((rows ++ more).length * sz)) := by
  rw [rpLL_iff] at *
  rw [List.flatten_append, List.length_append, Nat.add_mul, List.take_add]
  refine h1.append ?_
  rw [List.drop_drop]
  exact h2
theorem slice_ok {t : TypeId} {x : D} {v : AV} (hx : Rp E R x v) {lo hi mx : Option D} {vlo vhi vmx : Option AV} (h1 : RpO E R lo vlo) (h2 : RpO E R hi vhi) (h3 : RpO E R mx vmx) {d : D} (h : sliceD P t x lo hi mx = some d) :
    ∃ y, Rp E R d y ∧ ∀ H, sliceA P H t v vlo vhi vmx = some y := by
  unfold sliceD at h
  split at h
  · rename_i hu
    cases mx with
    | some m => cases h
    | none =>
      cases vmx with
      | some m => exact h3.elim
      | none =>
        cases x <;> simp only [sliceStr] at h <;> try (cases h; done)
        rename_i s
        simp only [Rp] at hx
        subst hx
        cases hb : boundsD s.length s.length lo hi none with
        | none => rw [hb] at h; cases h
        | some r =>
          obtain ⟨l, hh, m⟩ := r
          rw [hb] at h
          cases h
          obtain ⟨m', e, _⟩ := bounds_ok h1 h2 h3 (Nat.le_refl _) hb (Nat.le_refl _) (fun _ => .inr trivial)
          refine ⟨.str ((s.drop l).take (hh - l)), by simp only [Rp], fun H => ?_⟩
          simp only [sliceA, hu, e, Option.isSome_none, Bool.false_eq_true, if_false, Option.bind_eq_bind, Option.bind_some]
  · rename_i el hu
    split at h
    · rename_i sz hsz
      cases x <;> simp only [sliceSl] at h <;> try (cases h; done)
      · -- nil
        simp only [Rp] at hx
        subst hx
        cases hb : boundsD 0 0 lo hi mx with
        | none => rw [hb] at h; cases h
        | some r =>
          obtain ⟨l, hh, m⟩ := r
          rw [hb] at h
          cases h
          obtain ⟨m', e, _⟩ := bounds_ok h1 h2 h3 (Nat.le_refl _) hb (Nat.le_refl _) (fun _ => .inr trivial)
          refine ⟨.nilSlc, by simp only [Rp], fun H => ?_⟩
          simp only [sliceA, hu, hsz, e, Option.bind_eq_bind, Option.bind_some]
      · -- rows
        rename_i rows z
        split at h
        · rename_i hz
          subst hz
          simp only [Rp] at hx
          rcases hx with ⟨rfl, rfl⟩ | ⟨o, j, cap, ex, z', rfl, f1, f2, f3, f4⟩
          · cases hb : boundsD 0 0 lo hi mx with
            | none => simp only [List.length_nil, hb] at h; cases h
            | some r =>
              obtain ⟨l, hh, m⟩ := r
              simp only [List.length_nil, hb, Option.map_some, List.drop_nil, List.take_nil, extD] at h
              cases h
              obtain ⟨m', e, _⟩ := bounds_ok h1 h2 h3 (Nat.le_refl _) hb (Nat.le_refl _) (fun _ => .inr trivial)
              refine ⟨.nilSlc, by simp only [Rp]; exact .inl ⟨by trivial, by trivial⟩, fun H => ?_⟩
              simp only [sliceA, hu, hsz, e, Option.bind_eq_bind, Option.bind_some]
          cases hb : boundsD rows.length rows.length lo hi mx with
          | none => rw [hb] at h; cases h
          | some r =>
            obtain ⟨l, hh, m⟩ := r
            rw [hb] at h
            cases h
            obtain ⟨m', e, g1, g2, g3, g4⟩ := bounds_ok h1 h2 h3 (Nat.le_refl _) hb f2 (fun _ => .inr trivial)
            have hf : sizeFits o z' z = true := by
              cases o with
              | old b => rfl
              | new k => have : z' = z := f1; simp [sizeFits, this]
            have hm : m ≤ rows.length ∧ hh ≤ m ∧ m ≤ m' := by
              have := bounds_top hb
              rcases g4 with g4 | ⟨_, g4, g5⟩ <;> omega
            refine ⟨.slc o (j + l * z) (hh - l) (m' - l) (ex || vmx.isSome) z', ?_, fun H => ?_⟩
            · rcases f4 with rfl | ⟨all, k1, k2, k3⟩
              · simp only [List.drop_nil, List.take_nil, extD, Rp]
                have : hh = 0 := by simpa using g2
                exact .inr ⟨o, j + l * z, m' - l, ex || vmx.isSome, z', by simp [this], f1, Nat.zero_le _, fun row hr => (by cases hr), .inl (by trivial)⟩
              · exact rp_part f3 k1 f1 k2 k3 g1 hm.2.1 hm.1 hm.2.2 _
            · simp only [sliceA, hu, hsz, e, Option.bind_eq_bind, Option.bind_some, hf, if_true]
        · cases h
      · -- what has more behind it
        rename_i rows more z
        split at h
        · rename_i hz
          subst hz
          simp only [Rp] at hx
          obtain ⟨o, j, cap, ex, z', all, rfl, f1, f2, f3, f4, f5, f6, f7, f8⟩ := hx
          cases hb : boundsD rows.length (rows ++ more).length lo hi mx with
          | none => rw [hb] at h; cases h
          | some r =>
            obtain ⟨l, hh, m⟩ := r
            rw [hb] at h
            cases h
            obtain ⟨m', e, g1, g2, g3, g4⟩ := bounds_ok h1 h2 h3 (cap := (rows ++ more).length) (by rw [List.length_append]; omega) hb (cap' := cap) (by rw [List.length_append]; omega) (fun _ => .inr trivial)
            have hf : sizeFits o z' z = true := by
              cases o with
              | old b => rfl
              | new k => have : z' = z := f1; simp [sizeFits, this]
            have hm : m ≤ (rows ++ more).length ∧ hh ≤ m ∧ m ≤ m' := by
              have := bounds_top hb
              rw [List.length_append] at *
              rcases g4 with g4 | ⟨_, g4, g5⟩ <;> omega
            refine ⟨.slc o (j + l * z) (hh - l) (m' - l) (ex || vmx.isSome) z', ?_, fun H => ?_⟩
            · rcases f5 with f5 | ⟨rfl, rfl⟩
              rotate_left
              · simp only [List.append_nil, List.drop_nil, List.take_nil, List.length_nil] at hm ⊢
                show Rp E R (.lst [] z) _
                simp only [Rp]
                have e0 : hh - l = 0 := by omega
                exact .inr ⟨o, j + l * z, m' - l, ex || vmx.isSome, z', by rw [e0]; rfl, f1, Nat.zero_le _, fun row hr => (by cases hr), .inl trivial⟩
              refine rp_part (rows := rows ++ more) (fun row hr => (List.mem_append.1 hr).elim (f3 row) (f4 row)) f5 f1 (rpLL_app f6 f7) ?_ g1 hm.2.1 hm.1 hm.2.2 _
              rw [List.length_append]; exact f8
            · simp only [sliceA, hu, hsz, e, Option.bind_eq_bind, Option.bind_some, hf, if_true]
        · cases h
      · -- what is turned
        rename_i k i len cap ex z
        split at h
        · rename_i hz
          subst hz
          simp only [Rp] at hx
          subst hx
          cases hb : boundsD len cap lo hi mx with
          | none => rw [hb] at h; cases h
          | some r =>
            obtain ⟨l, hh, m⟩ := r
            rw [hb] at h
            cases h
            have key : boundsA len cap vlo vhi vmx = some (l, hh, m) ∧ (mx.isSome = vmx.isSome) := by
              refine ⟨?_, ?_⟩
              · unfold boundsD at hb
                unfold boundsA
                cases mx with
                | none =>
                  cases vmx with
                  | some v => exact h3.elim
                  | none =>
                    rw [show topD cap none = some cap from rfl, Option.bind_some] at hb
                    rw [show topA cap none = some cap from rfl, Option.bind_some]
                    cases hi with
                    | none =>
                      cases vhi with
                      | some v => exact h2.elim
                      | none =>
                        rw [show highD len cap none none = some len from rfl, Option.bind_some] at hb
                        rw [show highA len cap none none = some len from rfl, Option.bind_some]
                        cases lo with
                        | none =>
                          cases vlo with
                          | some v => exact h1.elim
                          | none => exact hb
                        | some dl =>
                          cases vlo with
                          | none => exact h1.elim
                          | some v =>
                            cases hq : boundD dl len with
                            | none => rw [show lowD len (some dl) = boundD dl len from rfl, hq] at hb; cases hb
                            | some q =>
                              rw [show lowD len (some dl) = boundD dl len from rfl, hq] at hb
                              rw [show lowA len (some v) = boundA v len from rfl, (bound_ok h1 hq).1]
                              exact hb
                    | some dh =>
                      cases vhi with
                      | none => exact h2.elim
                      | some vh =>
                        cases hq : boundD dh cap with
                        | none => rw [show highD len cap (some dh) none = boundD dh cap from rfl, hq] at hb; cases hb
                        | some q =>
                          rw [show highD len cap (some dh) none = boundD dh cap from rfl, hq, Option.bind_some] at hb
                          rw [show highA len cap (some vh) none = boundA vh cap from rfl, (bound_ok h2 hq).1, Option.bind_some]
                          cases lo with
                          | none =>
                            cases vlo with
                            | some v => exact h1.elim
                            | none => exact hb
                          | some dl =>
                            cases vlo with
                            | none => exact h1.elim
                            | some v =>
                              cases hq2 : boundD dl q with
                              | none => rw [show lowD q (some dl) = boundD dl q from rfl, hq2] at hb; cases hb
                              | some q2 =>
                                rw [show lowD q (some dl) = boundD dl q from rfl, hq2] at hb
                                rw [show lowA q (some v) = boundA v q from rfl, (bound_ok h1 hq2).1]
                                exact hb
                | some dm =>
                  cases vmx with
                  | none => exact h3.elim
                  | some vm =>
                    cases hqm : boundD dm cap with
                    | none => rw [show topD cap (some dm) = boundD dm cap from rfl, hqm] at hb; cases hb
                    | some qm =>
                      rw [show topD cap (some dm) = boundD dm cap from rfl, hqm, Option.bind_some] at hb
                      rw [show topA cap (some vm) = boundA vm cap from rfl, (bound_ok h3 hqm).1, Option.bind_some]
                      cases hi with
                      | none => cases hb
                      | some dh =>
                        cases vhi with
                        | none => exact h2.elim
                        | some vh =>
                          cases hq : boundD dh qm with
                          | none => rw [show highD len qm (some dh) (some dm) = boundD dh qm from rfl, hq] at hb; cases hb
                          | some q =>
                            rw [show highD len qm (some dh) (some dm) = boundD dh qm from rfl, hq, Option.bind_some] at hb
                            rw [show highA len qm (some vh) (some vm) = boundA vh qm from rfl, (bound_ok h2 hq).1, Option.bind_some]
                            cases lo with
                            | none =>
                              cases vlo with
                              | some v => exact h1.elim
                              | none => exact hb
                            | some dl =>
                              cases vlo with
                              | none => exact h1.elim
                              | some v =>
                                cases hq2 : boundD dl q with
                                | none => rw [show lowD q (some dl) = boundD dl q from rfl, hq2] at hb; cases hb
                                | some q2 =>
                                  rw [show lowD q (some dl) = boundD dl q from rfl, hq2] at hb
                                  rw [show lowA q (some v) = boundA v q from rfl, (bound_ok h1 hq2).1]
                                  exact hb
              · cases mx <;> cases vmx <;> first | rfl | exact h3.elim
            refine ⟨.slc (.new k) (i * z + l * z) (hh - l) (m - l) (ex || vmx.isSome) z, ?_, fun H => ?_⟩
            · simp only [Rp]
              rw [key.2, Nat.add_mul]
            · simp only [sliceA, hu, hsz, key.1, Option.bind_eq_bind, Option.bind_some, sizeFits, beq_self_eq_true, if_true]
        · cases h
    · cases h
  · cases h
theorem off_ok {x : D} {v : AV} (hx : Rp E R x v) {off : Nat} {d : D} (h : offD off x = some d) : ∃ o i, v = .ptr o i ∧ Rp E R d (.ptr o (i + off)) := by
  cases x <;> simp only [offD] at h <;> try (cases h; done)
  all_goals
    cases h
    simp only [Rp] at hx ⊢
  · subst hx; exact ⟨_, _, rfl, rfl⟩
  · subst hx; exact ⟨_, _, rfl, by rw [Nat.add_assoc]⟩
  · obtain ⟨o, j, all, rfl, e2, e3⟩ := hx
    exact ⟨_, _, rfl, o, j, all, by rw [Nat.add_assoc], e2, e3⟩
theorem fieldAt_ok {s : TypeId} {x : D} {v : AV} (hx : Rp E R x v) {f : Nat} {d : D} (h : fieldAtD P s x f = some d) : ∃ y, Rp E R d y ∧ fieldAtA P s v f = some y := by
  unfold fieldAtD at h
  cases hf : fieldOf P s f with
  | none => rw [hf] at h; cases h
  | some fl =>
    simp only [hf] at h
    split at h
    · rename_i n hs
      obtain ⟨o, i, rfl, h1⟩ := off_ok hx h
      refine ⟨_, h1, ?_⟩
      simp only [fieldAtA, hf, hs, Option.bind_eq_bind, Option.bind_some, Option.isSome_some, true_and]
      rw [if_pos (by simp)]
    · cases h
theorem part_ok {t : TypeId} {x : D} {v : AV} (hx : Rp E R x v) {off : Nat} {d : D} (h : partD P t off x = some d) : ∃ cs y, v = .agg cs ∧ Rp E R d y ∧ partA P t cs off = some y := by
  unfold partD at h
  cases hg : isAggA P t with
  | none => rw [hg] at h; cases h
  | some b =>
    simp only [hg] at h
    cases b with
    | true =>
      cases hs : sizeA P t with
      | none => rw [hs] at h; cases h
      | some n =>
        simp only [hs] at h
        cases x <;> simp only [partAg] at h <;> try (cases h; done)
        cases h
        simp only [Rp] at hx
        obtain ⟨vs, rfl, h1, h2⟩ := hx
        refine ⟨vs, .agg ((vs.drop off).take n), rfl, ?_, by simp only [partA, hg, hs, Option.pure_def, Option.bind_eq_bind, Option.bind_some, if_true]⟩
        simp only [Rp]
        exact ⟨_, rfl, (h1.drop off).take n, all_take (all_drop h2 off) n⟩
    | false =>
      simp only at h
      cases x <;> simp only [partSc] at h <;> try (cases h; done)
      simp only [Rp] at hx
      obtain ⟨vs, rfl, h1, h2⟩ := hx
      obtain ⟨y, e1, e2⟩ := rpL_get h1 h
      exact ⟨vs, y, rfl, e2, by simp only [partA, hg, Option.bind_eq_bind, Option.bind_some, Bool.false_eq_true, if_false, e1]⟩
theorem field_ok {s : TypeId} {x : D} {v : AV} (hx : Rp E R x v) {f : Nat} {d : D} (h : fieldD P s x f = some d) : ∃ y, Rp E R d y ∧ fieldA P s v f = some y := by
  unfold fieldD at h
  cases hf : fieldOf P s f with
  | none => rw [hf] at h; cases h
  | some fl =>
    simp only [hf] at h
    obtain ⟨cs, y, rfl, h1, h2⟩ := part_ok hx h
    exact ⟨y, h1, by simp only [fieldA, hf, Option.bind_eq_bind, Option.bind_some, h2]⟩
theorem indexAt_ok {t : TypeId} {x ix : D} {v vi : AV} (hx : Rp E R x v) (hi : Rp E R ix vi) {d : D} (h : indexAtD P t x ix = some d) : ∃ y, Rp E R d y ∧ indexAtA P t v vi = some y := by
  unfold indexAtD at h
  split at h
  · rename_i e hu
    split at h
    · rename_i sz hs
      cases ix <;> simp only [idxSl] at h <;> try (cases h; done)
      rename_i k n
      simp only [Rp] at hi
      subst hi
      cases x <;> simp only at h <;> try (cases h; done)
      · rename_i rows z
        split at h
        · rename_i hz
          obtain ⟨rfl, h0⟩ := hz
          split at h
          · rename_i row hrow
            cases h
            simp only [Rp] at hx
            rcases hx with ⟨rfl, _⟩ | ⟨o, j, cap, ex, z', rfl, f1, f2, f3, f4⟩
            · cases hrow
            have hlt := (List.getElem?_eq_some_iff.1 hrow).1
            have hrl := f3 row (List.mem_of_getElem? hrow)
            rcases f4 with rfl | ⟨all, k1, k2, k3⟩
            · cases hrow
            refine ⟨.ptr o (j + n.toNat * z), ?_, ?_⟩
            · simp only [Rp]
              refine ⟨o, j + n.toNat * z, all, rfl, k1, ?_⟩
              have hle : n.toNat * z + z ≤ rows.length * z := by rw [← Nat.succ_mul]; exact Nat.mul_le_mul_right _ hlt
              rw [hrl, take_part (L := rows.length * z) hle]
              refine ⟨?_, all_take (all_drop k3 _) _⟩
              have := ((rpLL_iff.1 k2).drop (n.toNat * z)).take z
              rw [flat_row f3 hrow] at this
              exact this
            · simp only [indexAtA, intOfA, hu, hs, Option.bind_eq_bind, Option.bind_some]
              rw [if_pos (by omega)]
          · cases h
        · cases h
      · rename_i rows more z
        split at h
        · rename_i hz
          obtain ⟨rfl, h0⟩ := hz
          split at h
          · rename_i row hrow
            cases h
            simp only [Rp] at hx
            obtain ⟨o, j, cap, ex, z', all, rfl, f1, f2, f3, f4, k1, k2, f7, k3⟩ := hx
            have hlt := (List.getElem?_eq_some_iff.1 hrow).1
            have k1 := k1.resolve_right fun h => by rw [h.1] at hlt; simp at hlt
            have hrl := f3 row (List.mem_of_getElem? hrow)
            refine ⟨.ptr o (j + n.toNat * z), ?_, ?_⟩
            · simp only [Rp]
              refine ⟨o, j + n.toNat * z, all, rfl, k1, ?_⟩
              have hle : n.toNat * z + z ≤ rows.length * z := by rw [← Nat.succ_mul]; exact Nat.mul_le_mul_right _ hlt
              have hle' : rows.length * z ≤ (rows.length + more.length) * z := Nat.mul_le_mul_right _ (by omega)
              rw [hrl]
              refine ⟨?_, by rw [take_part (L := (rows.length + more.length) * z) (by omega)]; exact all_take (all_drop k3 _) _⟩
              rw [take_part (L := rows.length * z) hle]
              have := ((rpLL_iff.1 k2).drop (n.toNat * z)).take z
              rw [flat_row f3 hrow] at this
              exact this
            · simp only [indexAtA, intOfA, hu, hs, Option.bind_eq_bind, Option.bind_some]
              rw [if_pos (by omega)]
          · cases h
        · cases h
      · rename_i k i len cap ex z
        split at h
        · rename_i hz
          obtain ⟨rfl, h0, h1⟩ := hz
          cases h
          simp only [Rp] at hx
          subst hx
          refine ⟨_, by simp only [Rp]; rfl, ?_⟩
          simp only [indexAtA, intOfA, hu, hs, Option.bind_eq_bind, Option.bind_some]
          rw [if_pos ⟨h0, h1⟩, Nat.add_mul, Nat.add_zero]
        · cases h
    · cases h
  · rename_i len e hu
    split at h
    · rename_i sz hs
      cases ix <;> simp only [idxArr] at h <;> try (cases h; done)
      rename_i k n
      simp only [Rp] at hi
      subst hi
      split at h
      · rename_i hn
        obtain ⟨o, i, rfl, h1⟩ := off_ok hx h
        refine ⟨_, h1, ?_⟩
        simp only [indexAtA, intOfA, hu, hs, Option.bind_eq_bind, Option.bind_some]
        rw [if_pos hn]
      · cases h
    · cases h
  · cases h
theorem index_ok {t : TypeId} {x ix : D} {v vi : AV} (hx : Rp E R x v) (hi : Rp E R ix vi) {d : D} (h : indexD P t x ix = some d) : ∃ y, Rp E R d y ∧ indexA P t v vi = some y := by
  unfold indexD at h
  split at h
  · rename_i hu
    cases ix <;> simp only [idxStr] at h <;> try (cases h; done)
    rename_i k n
    cases x <;> simp only at h <;> try (cases h; done)
    rename_i s
    simp only [Rp] at hi hx
    subst hi hx
    split at h
    · rename_i h0
      split at h
      · rename_i b hb
        cases h
        refine ⟨_, by simp only [Rp]; rfl, ?_⟩
        simp only [indexA, intOfA, hu, Option.bind_eq_bind, Option.bind_some, hb]
        rw [if_pos h0]
        rfl
      · cases h
    · cases h
  · rename_i len e hu
    split at h
    · rename_i sz ag hs hag
      cases ix <;> simp only [idxAgg] at h <;> try (cases h; done)
      rename_i kk n
      simp only [Rp] at hi
      subst hi
      split at h
      · rename_i hn
        have hp : partD P e (n.toNat * sz) x = some d := by
          unfold partD
          rw [hag]
          cases ag with
          | true => simp only [hs]; exact h
          | false => exact h
        obtain ⟨cs, y, rfl, h1, h2⟩ := part_ok hx hp
        refine ⟨y, h1, ?_⟩
        simp only [indexA, intOfA, hu, hs, Option.bind_eq_bind, Option.bind_some]
        rw [if_pos hn]
        exact h2
      · cases h
    · cases h
  · cases h
theorem len_ok {t : TypeId} {x : D} {v : AV} (hx : Rp E R x v) {d : D} (h : lenD P t x = some d) : ∃ y, Rp E R d y ∧ ∀ H, lenV P H t v = some y := by
  unfold lenD at h
  have go : ∀ {n : Nat}, lenA P t v = some n → d = .int .i64 n → ∃ y, Rp E R d y ∧ ∀ H, lenV P H t v = some y := by
    intro n e1 e2
    subst e2
    exact ⟨.int .i64 n, by simp only [Rp], fun H => by simp only [lenV, e1]⟩
  split at h
  · rename_i hu
    cases x <;> simp only [lenStr] at h <;> try (cases h; done)
    cases h
    simp only [Rp] at hx
    subst hx
    exact go (by simp only [lenA, hu]) rfl
  · rename_i e hu
    cases x <;> simp only [lenSl] at h <;> try (cases h; done)
    all_goals
      cases h
      simp only [Rp] at hx
    · subst hx; exact go (n := 0) (by simp only [lenA, hu]) rfl
    · rcases hx with ⟨rfl, rfl⟩ | ⟨o, j, cap, ex, z', rfl, _⟩
      · exact go (n := 0) (by simp only [lenA, hu]) rfl
      · exact go (by simp only [lenA, hu]) rfl
    · obtain ⟨o, j, cap, ex, z', all, rfl, _⟩ := hx; exact go (by simp only [lenA, hu]) rfl
    · subst hx; exact go (by simp only [lenA, hu]) rfl
  · rename_i n e hu
    cases h
    exact go (by simp only [lenA, hu]) rfl
  · cases h
theorem cap_ok {t : TypeId} {x : D} {v : AV} (hx : Rp E R x v) {d : D} (h : capD P t x = some d) : ∃ y, Rp E R d y ∧ ((capA P t v).map fun (n : Nat) => AV.int .i64 n) = some y := by
  unfold capD at h
  split at h
  · rename_i e hu
    cases x <;> simp only [capSl] at h <;> try (cases h; done)
    · cases h
      simp only [Rp] at hx
      subst hx
      exact ⟨.int .i64 (0 : Nat), by simp only [Rp]; rfl, by simp only [capA, hu]; rfl⟩
    · rename_i k i len cap ex z
      cases ex <;> simp only at h <;> try (cases h; done)
      cases h
      simp only [Rp] at hx
      subst hx
      exact ⟨.int .i64 cap, by simp only [Rp], by simp only [capA, hu]; rfl⟩
  · rename_i n e hu
    cases h
    exact ⟨.int .i64 n, by simp only [Rp], by simp only [capA, hu]; rfl⟩
  · cases h
theorem mm_fold {m : Bool} : ∀ {l : List D} {vs : List AV} {x : D} {v : AV} {d : D}, Rp E R x v → RpL E R l vs → l.foldlM (mmD m) x = some d → ∃ y, Rp E R d y ∧ vs.foldlM (fun x y => match x, y with
    | .int k a, .int _ b => some (AV.int k (if m then (if b > a then b else a) else (if b < a then b else a)))
    | _, _ => none) v = some y
  | [], vs, x, v, d, hx, hl, h => by
    simp only [RpL] at hl
    subst hl
    cases h
    exact ⟨v, hx, rfl⟩
  | a :: l, vs, x, v, d, hx, hl, h => by
    simp only [RpL] at hl
    obtain ⟨w, ws, rfl, h1, h2⟩ := hl
    simp only [List.foldlM_cons, Option.bind_eq_bind] at h ⊢
    cases x <;> simp only [mmD, Option.bind_none] at h <;> try (cases h; done)
    cases a <;> simp only [Option.bind_none] at h <;> try (cases h; done)
    simp only [Option.bind_some] at h
    simp only [Rp] at hx h1
    subst hx h1
    exact mm_fold (by simp only [Rp]) h2 h
theorem minMax_ok {m : Bool} {l : List D} {vs : List AV} (hl : RpL E R l vs) {d : D} (h : minMaxD m l = some d) : ∃ y, Rp E R d y ∧ minMaxA m vs = some y := by
  cases l with
  | nil => cases h
  | cons x l =>
    simp only [RpL] at hl
    obtain ⟨v, ws, rfl, h1, h2⟩ := hl
    exact mm_fold h1 h2 h
theorem iface_ok {t : TypeId} {x : D} {v : AV} (hx : Rp E R x v) {d : D} (h : ifaceD P t x = some d) : ∃ y, Rp E R d y ∧ ifaceV P t v = some y := by
  unfold ifaceD at h
  unfold ifaceV
  split at h
  · cases h
  · rename_i u hn hu
    cases h
    rw [hu]
    refine ⟨.ifc t v, by simp only [Rp]; exact ⟨v, rfl, hx⟩, ?_⟩
    split
    · rename_i e h1; cases h1; exact (hn _ rfl).elim
    · rfl
    · rename_i h1; cases h1
  · cases h
theorem assert_ok {x : D} {v : AV} (hx : Rp E R x v) {t : TypeId} {ok : Bool} {d : D} (h : assertD P x t ok = some d) : ∃ y, Rp E R d y ∧ assertA P v t ok = some y := by
  unfold assertD at h
  split at h
  · cases h
  · rename_i u hn hu
    split at h
    · rename_i z hz
      have fails : ok = true → d = .tup [ofAV z, .bool false] → ∃ y, Rp E R d y ∧ (if ok = true then (zeroOf P t).map fun z => AV.tup [z, .bool false] else none) = some y := by
        intro hok hd
        subst hd
        refine ⟨.tup [z, .bool false], ?_, by rw [if_pos hok, hz]; rfl⟩
        simp only [Rp]
        exact ⟨_, rfl, rpL_cons rp_ofAV (rpL_cons (by simp only [Rp]) rpL_nil)⟩
      unfold assertA
      rw [hu]
      split
      · rename_i e h1; cases h1; exact (hn _ rfl).elim
      · cases x <;> simp only [asD] at h <;> try (cases h; done)
        · split at h
          · rename_i hok
            cases h
            simp only [Rp] at hx
            subst hx
            exact fails hok rfl
          · cases h
        · rename_i t' d'
          simp only [Rp] at hx
          obtain ⟨v', rfl, hv⟩ := hx
          split at h
          · rename_i ht
            cases h
            simp only [if_pos ht]
            cases ok with
            | true =>
              refine ⟨.tup [v', .bool true], ?_, rfl⟩
              simp only [if_true, Rp]
              exact ⟨_, rfl, rpL_cons hv (rpL_cons (by simp only [Rp]) rpL_nil)⟩
            | false => exact ⟨v', by simpa using hv, rfl⟩
          · rename_i ht
            split at h
            · rename_i hok
              cases h
              simp only [if_neg ht]
              exact fails hok rfl
            · cases h
      · rename_i h1; cases h1
    · cases h
  · cases h
theorem setManyD_ok : ∀ {ds : List D} {vs : List AV} {cs : List D} {ws : List AV} {i : Nat}, RpL E R cs ws → RpL E R ds vs → RpL E R (setManyD cs i ds) (setMany ws i vs)
  | [], vs, cs, ws, i, h, hd => by simp only [RpL] at hd; subst hd; exact h
  | d :: ds, vs, cs, ws, i, h, hd => by
    simp only [RpL] at hd
    obtain ⟨v, vs, rfl, h1, h2⟩ := hd
    show RpL E R (setManyD (cs.set i d) (i + 1) ds) (setMany (ws.set i v) (i + 1) vs)
    exact setManyD_ok (h.set i h1) h2
theorem setManyD_length : ∀ (ds cs : List D) (i : Nat), (setManyD cs i ds).length = cs.length
  | [], cs, i => rfl
  | d :: ds, cs, i => by rw [setManyD, setManyD_length ds, List.length_set]
theorem setMany_scalar : ∀ {vs ws : List AV} {i : Nat}, ws.all scalar = true → vs.all scalar = true → (setMany ws i vs).all scalar = true
  | [], ws, i, h, _ => h
  | v :: vs, ws, i, h, hv => by
    simp only [List.all_cons, Bool.and_eq_true] at hv
    show (setMany (ws.set i v) (i + 1) vs).all scalar = true
    refine setMany_scalar ?_ hv.2
    refine List.all_eq_true.2 fun x hx => ?_
    rcases List.mem_or_eq_of_mem_set hx with hx | rfl
    · exact List.all_eq_true.1 h x hx
    · exact hv.1
/-- Parts, beside one another. -/
def RpP (E : Env) (R : Fz) : List (Nat × D) → List (Nat × AV) → Prop
  | [], l => l = []
  | (i, d) :: ds, l => ∃ v vs, l = (i, v) :: vs ∧ Rp E R d v ∧ RpP E R ds vs
theorem rpP_eval {T : List D} {avs : List AV} (h : RpL E R T avs) : ∀ l : List (Nat × Operand), RpP E R (l.map fun p => (p.1, dEval T p.2)) (l.map fun p => (p.1, aEval avs p.2))
  | [] => rfl
  | (i, x) :: l => ⟨_, _, rfl, rp_eval h x, rpP_eval h l⟩
theorem fill_ok {place : Nat → Option (Nat × Nat)} : ∀ {parts : List (Nat × D)} {ps : List (Nat × AV)} {cs : List D} {ws : List AV} {l : List (Nat × Nat × D)} {r : List D}, RpP E R parts ps → RpL E R cs ws → ws.all scalar = true → placesD place parts = some l → fillD cs l = some r →
    ∃ us, RpL E R r us ∧ us.all scalar = true ∧ us.length = ws.length ∧ fillA place ws ps = some us
  | [], ps, cs, ws, l, r, hp, hc, hs, h1, h2 => by
    have hp' : ps = [] := hp
    subst hp'
    cases h1
    cases h2
    exact ⟨ws, hc, hs, rfl, rfl⟩
  | (i, d) :: parts, ps, cs, ws, l, r, hp, hc, hs, h1, h2 => by
    obtain ⟨v, vs, rfl, hd, hp⟩ := hp
    simp only [placesD] at h1
    split at h1
    · rename_i off size hpl
      split at h1
      · rename_i l' hl'
        cases h1
        simp only [fillD] at h2
        split at h2
        · rename_i ds hds
          split at h2
          · rename_i hsz
            obtain ⟨g1, g2⟩ := rp_cells hd hds
            obtain ⟨us, k1, k2, k3, k4⟩ := fill_ok hp (setManyD_ok (i := off) hc g1) (setMany_scalar hs g2) hl' h2
            refine ⟨us, k1, k2, by rw [k3, setMany_length], ?_⟩
            simp only [fillA, hpl]
            rw [if_pos, k4]
            rw [g1.length, ← hc.length] at *
            exact ⟨hsz.1, by omega⟩
          · cases h2
        · cases h2
      · cases h1
    · cases h1
theorem agg_ok {r : Option (List D)} {d : D} (h : aggD r = some d) : ∃ cs, r = some cs ∧ d = .agg cs := by
  cases r with
  | none => cases h
  | some cs => cases h; exact ⟨cs, rfl, rfl⟩
theorem build_ok {t : TypeId} {parts : List (Nat × D)} {ps : List (Nat × AV)} (hp : RpP E R parts ps) {d : D} (h : buildD P t parts = some d) : ∃ y, Rp E R d y ∧ buildA P t ps = some y := by
  unfold buildD at h
  split at h
  · rename_i z hz
    split at h
    · rename_i hsc
      have fin : ∀ {place : Nat → Option (Nat × Nat)} {l : List (Nat × Nat × D)}, placesD place parts = some l → aggD (fillD (z.map ofAV1) l) = some d → ∃ y, Rp E R d y ∧ (fillA place (AV.agg z).cells ps).map AV.agg = some y := by
        intro place l h1 h2
        obtain ⟨cs, e1, rfl⟩ := agg_ok h2
        obtain ⟨us, k1, k2, k3, k4⟩ := fill_ok hp (rpL_ofAV1 z) hsc h1 e1
        refine ⟨.agg us, by simp only [Rp]; exact ⟨us, rfl, k1, k2⟩, ?_⟩
        show (fillA place z ps).map AV.agg = _
        rw [k4]; rfl
      split at h
      · rename_i fields hu
        split at h
        · rename_i places hpl
          split at h
          · rename_i l hl
            obtain ⟨y, e1, e2⟩ := fin hl h
            refine ⟨y, e1, ?_⟩
            simp only [buildA, hz, hu, hpl, Option.bind_eq_bind, Option.bind_some]
            exact e2
          · cases h
        · cases h
      · rename_i n e hu
        split at h
        · rename_i size hs
          split at h
          · rename_i l hl
            obtain ⟨y, e1, e2⟩ := fin hl h
            refine ⟨y, e1, ?_⟩
            simp only [buildA, hz, hu, hs, Option.bind_eq_bind, Option.bind_some]
            exact e2
          · cases h
        · cases h
      · cases h
    · cases h
  · cases h
theorem rowsOf_ok (hC : Conf E R S H0) {sz : Nat} {x : D} {v : AV} (hx : Rp E R x v) {rows : List (List D)} (h : rowsOf S sz x = some rows) :
    (∀ row ∈ rows, row.length = sz) ∧ lenOfA v = some rows.length ∧ ∃ cs, RpL E R rows.flatten cs ∧ cs.all scalar = true ∧ ∀ H, Agr R S (footK x) H → firstA E H sz rows.length v = some cs ∧ (∀ o i len cap ex z, v = .slc o i len cap ex z → rangeOr E H o i (len * sz) = some cs) := by
  cases x <;> simp only [rowsOf] at h <;> try (cases h; done)
  · cases h
    simp only [Rp] at hx
    subst hx
    exact ⟨fun row hr => (by cases hr), rfl, [], rpL_nil, rfl, fun H _ => ⟨rfl, fun _ _ _ _ _ _ e => (by cases e)⟩⟩
  · rename_i rows' z
    split at h
    · rename_i hz
      cases h
      subst hz
      simp only [Rp] at hx
      rcases hx with ⟨rfl, rfl⟩ | ⟨o, j, cap, ex, z', rfl, f1, f2, f3, f4⟩
      · exact ⟨fun row hr => (by cases hr), rfl, [], rpL_nil, rfl, fun H _ => ⟨rfl, fun _ _ _ _ _ _ e => (by cases e)⟩⟩
      refine ⟨f3, rfl, ?_⟩
      rcases f4 with rfl | ⟨all, k1, k2, k3⟩
      · refine ⟨[], rpL_nil, rfl, fun H _ => ⟨?_, fun _ _ _ _ _ _ e => ?_⟩⟩
        · simp only [firstA, rangeOr, List.length_nil, Nat.zero_mul, if_true]
        · cases e; simp only [rangeOr, List.length_nil, Nat.zero_mul, if_true]
      · have key : ∀ H, Agr R S (footK (.lst rows z)) H → rangeOr E H o j (rows.length * z) = some ((all.drop j).take (rows.length * z)) := by
          intro H hA
          have hc := agr_cells k1 hA
          unfold rangeOr
          split
          · rename_i e0; rw [e0, List.take_zero]
          · rename_i e0
            have hl := (rpLL_iff.1 k2).length
            rw [flat_length f3, List.length_take, List.length_drop] at hl
            simp only [loadRange, hc]
            rw [if_pos (by omega)]
        exact ⟨_, rpLL_iff.1 k2, k3, fun H hA => ⟨key H hA, fun _ _ _ _ _ _ e => by cases e; exact key H hA⟩⟩
    · cases h
  · rename_i rows' more z
    split at h
    · rename_i hz
      cases h
      subst hz
      simp only [Rp] at hx
      obtain ⟨o, j, cap, ex, z', all, rfl, f1, f2, f3, f4, k1, k2, f7, k3⟩ := hx
      refine ⟨f3, rfl, ?_⟩
      have hle' : rows.length * z ≤ (rows.length + more.length) * z := Nat.mul_le_mul_right _ (by omega)
      have k3' : ((all.drop j).take (rows.length * z)).all scalar = true := by
        have := all_take k3 (rows.length * z)
        rw [List.take_take, Nat.min_eq_left hle'] at this
        exact this
      have key : ∀ H, Agr R S (footK (.ext rows more z)) H → rangeOr E H o j (rows.length * z) = some ((all.drop j).take (rows.length * z)) := by
        intro H hA
        unfold rangeOr
        split
        · rename_i e0; rw [e0, List.take_zero]
        · rename_i e0
          have hc := agr_cells (k1.resolve_right fun h => e0 (by rw [h.1]; simp)) hA
          have hl := (rpLL_iff.1 k2).length
          rw [flat_length f3, List.length_take, List.length_drop] at hl
          simp only [loadRange, hc]
          rw [if_pos (by omega)]
      exact ⟨_, rpLL_iff.1 k2, k3', fun H hA => ⟨key H hA, fun _ _ _ _ _ _ e => by cases e; exact key H hA⟩⟩
    · cases h
  · rename_i k i len cap ex z
    cases hk : S k with
    | none => rw [hk] at h; cases h
    | some o =>
      simp only [hk] at h
      split at h
      · rename_i hz
        obtain ⟨rfl, hsz, hlen⟩ := hz
        cases h
        simp only [Rp] at hx
        subst hx
        obtain ⟨h1, ⟨pre, h2⟩, h3, h4, h5⟩ := hC.own k o hk
        rw [hsz] at h4
        have hd : ∀ row ∈ o.rows.drop i, row.length = z := fun row hr => h4 row (List.mem_of_mem_drop hr)
        have hl : ((o.rows.drop i).take len).length = len := by rw [List.length_take, List.length_drop]; omega
        have hll := h5.length
        rw [flat_length h4] at hll
        have hle : i * z + len * z ≤ o.acs.length := by rw [hll, ← Nat.add_mul]; exact Nat.mul_le_mul_right _ hlen
        refine ⟨fun row hr => hd row (List.mem_of_mem_take hr), by rw [hl]; rfl, (o.acs.drop (i * z)).take (len * z), ?_, all_take (all_drop h3 _) _, fun H hA => ?_⟩
        · rw [← flat_take hd, ← flat_drop h4]
          exact (h5.drop _).take _
        · have key : rangeOr E H (.new k) (i * z) (len * z) = some ((o.acs.drop (i * z)).take (len * z)) := by
            obtain ⟨w, p, g⟩ := hA.st k o rfl hk
            exact rangeOr_new E g _ _ hle
          refine ⟨by rw [hl]; exact key, fun _ _ _ _ _ _ e => by cases e; exact key⟩
      · cases h
theorem byte_ok : ∀ {rows : List (List D)} {bs : List UInt8} {cs : List AV}, (∀ row ∈ rows, row.length = 1) → RpL E R rows.flatten cs → rows.mapM byteD = some bs → cs.mapM byteOf = some bs
  | [], bs, cs, _, h, e => by
    simp only [List.flatten_nil, RpL] at h
    subst h
    exact e
  | row :: rows, bs, cs, hl, h, e => by
    rw [List.mapM_cons] at e
    cases hb : byteD row with
    | none => rw [hb] at e; cases e
    | some b =>
      rw [hb] at e
      simp only [Option.bind_eq_bind, Option.bind_some] at e
      cases hm : rows.mapM byteD with
      | none => rw [hm] at e; cases e
      | some l =>
        rw [hm] at e
        cases e
        unfold byteD at hb
        split at hb
        · rename_i n
          cases hb
          simp only [List.flatten_cons, List.cons_append, List.nil_append, RpL] at h
          obtain ⟨v, vs, rfl, h1, h2⟩ := h
          simp only [Rp] at h1
          subst h1
          have ih := byte_ok (fun row hr => hl row (List.mem_cons_of_mem _ hr)) h2 hm
          rw [List.mapM_cons, ih]
          rfl
        · cases hb
theorem conv_ok (hC : Conf E R S H0) {s t : TypeId} {x : D} {v : AV} (hx : Rp E R x v) {d : D} (h : convD P S s t x = some d) : ∃ y, Rp E R d y ∧ ∀ H, Agr R S (footK x) H → (convA P E H s t v).map (·.1) = some y := by
  unfold convD at h
  split at h
  · rename_i hu1 hu2
    cases x <;> simp only [convI] at h <;> try (cases h; done)
    cases h
    simp only [Rp] at hx
    subst hx
    rename_i k' n
    exact ⟨.int _ (IntKind.wrap _ n), by simp only [Rp]; rfl, fun H _ => by simp only [convA, hu1, hu2]; rfl⟩
  · rename_i hu1 hu2
    cases x <;> simp only [convStr] at h <;> try (cases h; done)
    cases h
    simp only [Rp] at hx
    subst hx
    rename_i s
    exact ⟨.str s, by simp only [Rp], fun H _ => by simp only [convA, hu1, hu2]; rfl⟩
  · rename_i e hu1 hu2
    split at h
    · rename_i hue
      unfold convBS at h
      split at h
      · rename_i rows hrows
        obtain ⟨g1, g2, cs, g3, g4, g5⟩ := rowsOf_ok hC hx hrows
        cases hm : rows.mapM byteD with
        | none => rw [hm] at h; cases h
        | some bs =>
          rw [hm] at h
          cases h
          have hb := byte_ok g1 g3 hm
          refine ⟨.str bs, by simp only [Rp], fun H hA => ?_⟩
          obtain ⟨k1, k2⟩ := g5 H hA
          cases v <;> simp only [lenOfA, Option.some.injEq] at g2 <;> try (cases g2; done)
          · -- a text: no row tells so
            cases x <;> simp only [rowsOf] at hrows <;> try (cases hrows; done)
            · simp only [Rp] at hx; cases hx
            · simp only [Rp] at hx; rcases hx with ⟨_, hx⟩ | ⟨_, _, _, _, _, hx, _⟩ <;> cases hx
            · simp only [Rp] at hx; obtain ⟨_, _, _, _, _, _, hx, _⟩ := hx; cases hx
            · simp only [Rp] at hx; cases hx
          · have hr : rows = [] := List.length_eq_zero_iff.1 g2.symm
            subst hr
            cases hm
            simp only [convA, hu1, hu2, hue]
            rfl
          · have := k2 _ _ _ _ _ _ rfl
            rw [Nat.mul_one] at this
            simp only [convA, hu1, hu2, hue, this, hb]
            rfl
      · cases h
    · cases h
  · cases h
theorem rpO_map {T : List D} {avs : List AV} (h : RpL E R T avs) : ∀ x : Option Operand, RpO E R (x.map (dEval T)) (x.map (aEval avs))
  | none => trivial
  | some x => rp_eval h x
/-- Operations that turn nothing. -/
theorem opVD_ok {T : List D} {avs : List AV} (hT : RpL E R T avs) (hC : Conf E R S H0) {o : Oper} {d : D} (h : opVD P T S o = some d) :
    ∃ v, Rp E R d v ∧ ∀ H, Agr R S (footOf T o) H → opV P E avs H o = some v := by
  obtain ⟨dst, op, type, pos, after, guard⟩ := o
  have plain : ∀ {r : Option AV}, (∃ v, Rp E R d v ∧ r = some v) → ∃ v, Rp E R d v ∧ ∀ H, Agr R S (footOf T ⟨dst, op, type, pos, after, guard⟩) H → r = some v := fun ⟨v, a, b⟩ => ⟨v, a, fun _ _ => b⟩
  cases op <;> simp only [opVD] at h <;> try (cases h; done)
  case move x => cases h; exact ⟨_, rp_eval hT x, fun _ _ => rfl⟩
  case assign x => cases h; exact ⟨_, rp_eval hT x, fun _ _ => rfl⟩
  case pick c a b => exact plain (pick_ok (rp_eval hT c) (rp_eval hT a) (rp_eval hT b) h)
  case build t parts => exact plain (build_ok (rpP_eval hT _) h)
  case load t a =>
    obtain ⟨v, h1, h2⟩ := load_ok hC (rp_eval hT a) h
    exact ⟨v, h1, fun H hA => h2 H hA⟩
  case nilCheck x =>
    obtain ⟨h1, h2⟩ := nil_ok (rp_eval hT x) h
    exact ⟨_, h1, fun _ _ => h2⟩
  case binOp op t x y yt => exact plain (bin_ok (rp_eval hT x) (rp_eval hT y) h)
  case unOp op t x => exact plain (un_ok (rp_eval hT x) h)
  case convert s t x =>
    obtain ⟨v, h1, h2⟩ := conv_ok hC (rp_eval hT x) h
    exact ⟨v, h1, fun H hA => h2 H hA⟩
  case makeInterface t x => exact plain (iface_ok (rp_eval hT x) h)
  case makeFunc fn a b =>
    cases h
    refine ⟨_, ?_, fun _ _ => rfl⟩
    simp only [Rp]
    exact ⟨_, _, rfl, rpL_eval hT _, rpL_eval hT _⟩
  case slice t x lo hi mx =>
    obtain ⟨v, h1, h2⟩ := slice_ok (rp_eval hT x) (rpO_map hT lo) (rpO_map hT hi) (rpO_map hT mx) h
    exact ⟨v, h1, fun H _ => h2 H⟩
  case fieldAddr s x f => exact plain (fieldAt_ok (rp_eval hT x) h)
  case field s x f => exact plain (field_ok (rp_eval hT x) h)
  case indexAddr t x ix => exact plain (indexAt_ok (rp_eval hT x) (rp_eval hT ix) h)
  case index t x ix => exact plain (index_ok (rp_eval hT x) (rp_eval hT ix) h)
  case typeAssert x a t ok => exact plain (assert_ok (rp_eval hT x) h)
  case extract t ix => exact plain (extract_ok (rp_eval hT t) h)
  case call c =>
    cases hc : c.callee with
    | value f => rw [hc] at h; cases h
    | invoke r m => rw [hc] at h; cases h
    | builtin b =>
      simp only [hc] at h
      have ha := rpL_eval hT c.args.toList
      simp only [opV, hc]
      generalize c.args.toList.map (dEval T) = ds at h ha
      generalize c.args.toList.map (aEval avs) = vs at ha
      generalize c.argTypes.toList = ts at h
      cases b <;> (try simp only at h) <;> try (cases h; done)
      case len =>
        rcases ds with _ | ⟨x, _ | ⟨y, ds⟩⟩ <;> (try simp only at h) <;> try (cases h; done)
        rcases ts with _ | ⟨t, _ | ⟨u, ts⟩⟩ <;> (try simp only at h) <;> try (cases h; done)
        simp only [RpL] at ha
        obtain ⟨v, vs, rfl, h1, rfl⟩ := ha
        obtain ⟨y, g1, g2⟩ := len_ok h1 h
        exact ⟨y, g1, fun H _ => g2 H⟩
      case cap =>
        rcases ds with _ | ⟨x, _ | ⟨y, ds⟩⟩ <;> (try simp only at h) <;> try (cases h; done)
        rcases ts with _ | ⟨t, _ | ⟨u, ts⟩⟩ <;> (try simp only at h) <;> try (cases h; done)
        simp only [RpL] at ha
        obtain ⟨v, vs, rfl, h1, rfl⟩ := ha
        obtain ⟨y, g1, g2⟩ := cap_ok h1 h
        exact ⟨y, g1, fun H _ => g2⟩
      case min =>
        obtain ⟨y, g1, g2⟩ := minMax_ok ha h
        exact ⟨y, g1, fun H _ => g2⟩
      case max =>
        obtain ⟨y, g1, g2⟩ := minMax_ok ha h
        exact ⟨y, g1, fun H _ => g2⟩
end
end Go.Am
end
