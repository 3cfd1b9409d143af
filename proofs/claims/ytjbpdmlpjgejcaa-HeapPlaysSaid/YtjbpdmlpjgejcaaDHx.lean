/-
  A script of the caller's, read.
-/
import Derived.Test.YtjbpdmlpjgejcaaDHv
import Derived.SizedLaws
open Go.Proofs Go Go.Am
namespace Go.Proofs.Ytjbpdmlpjgejcaa.hp
open Go.ChangeShapes Go.WideShapes Go.ChangeAt Go.RowKit
set_option linter.unusedVariables false
set_option linter.unusedSimpArgs false
set_option maxRecDepth 100000

section
variable {H : Type} {enc : TypeId × Value → H} {P : Program} {W : World} {b0 : Nat} {sp : Nat → Bool} {hd : Bool}

theorem trod_int {n : Nat} {t : TypeId} {k : IntKind} {cs : List Value} {x : DataW H × List MemPlace} (ht : P.underlying t = some (.int k)) (h : DataW.trod enc P W b0 sp hd n t cs = some x) : ∃ z, cs = [.int k z] ∧ (Lit.int k z).wf = true := by
  cases n with
  | zero => simp [DataW.trod] at h
  | succ n =>
    simp only [DataW.trod, ht] at h
    split at h
    all_goals (first | (cases h; done) | skip)
    all_goals simp_all
    all_goals (first | (obtain ⟨⟨rfl, h2⟩, _⟩ := h; exact ⟨_, ⟨rfl, rfl⟩, h2⟩) | skip)

theorem trod_str {n : Nat} {t : TypeId} {cs : List Value} {x : DataW H × List MemPlace} (ht : P.underlying t = some .string) (h : DataW.trod enc P W b0 sp hd n t cs = some x) : ∃ s, cs = [.string s] ∧ x.1 = .lit (.string s.data.toList) := by
  cases n with
  | zero => simp [DataW.trod] at h
  | succ n =>
    simp only [DataW.trod, ht] at h
    split at h
    all_goals (first | (cases h; done) | skip)
    all_goals simp_all
    all_goals (obtain ⟨_, rfl⟩ := h; rfl)
end

/-- A cell that holds a slice of numbers. -/
theorem cell_ints {H : Type} {enc : TypeId × Value → H} {P : Program} {W : World} {hd : Bool} {n : Nat} {t e : TypeId} {k : IntKind} {cs : List Value} {x : DataW H × List MemPlace} (ht : P.underlying t = some (.slice e)) (he : P.underlying e = some (.int k)) (hc : P.cellsOf e = 1)
    (h : DataW.trod enc P W 0 (fun _ => true) hd n t cs = some x) {m : Nat} (hw : ∀ n ∈ DataW.weights P t x.1, n ≤ m) : ∃ c, cs = [c] ∧ ((old1 c = .nilSlc) ∨ ∃ (b i len cap : Nat) (zs : List Int), old1 c = .slc (.old b) i len cap true 1 ∧ len ≤ cap ∧ len * P.bytesOf e ≤ m ∧ zs.length = len ∧ (∀ z ∈ zs, (Lit.int k z).wf = true) ∧
      (len = 0 ∨ ∃ cs, envOf W b = some cs ∧ i + len ≤ cs.length ∧ (cs.drop i).take len = zs.map fun z => .int k z)) := by
  rcases open_ints ht he hc h with ⟨rfl, _⟩ | ⟨a, len, cap, zs, rfl, _, hl, hm, hz, hxe, hcell, hwf⟩
  · exact ⟨_, rfl, .inl rfl⟩
  · refine ⟨_, rfl, ?_⟩
    right
    have hm : len * P.bytesOf e ≤ m := by
      have := hw ((len + (zs.length - len)) * P.bytesOf e) (by
        rw [hxe]
        have hle : len ≤ zs.length := by rw [hz]; split <;> omega
        simp [DataW.weights, ht, lits, Nat.min_eq_left hle])
      exact Nat.le_trans (Nat.mul_le_mul_right _ (by omega)) this
    simp only [if_true] at hz
    have hs : cap = 0 ∨ a.spot = none := by
      by_cases h0 : cap = 0
      · exact .inl h0
      · have := hcell 0 (by omega)
        exact .inr (spot_of_cell this).1
    refine ⟨a.block, a.off, len, cap, zs.take len, ?_, hl, hm, by rw [List.length_take]; omega, fun z hz => hwf z (List.mem_of_mem_take hz), ?_⟩
    · simp only [old1]
      rw [if_pos ⟨hl, hs⟩]
    · by_cases h0 : len = 0
      · exact .inl h0
      · right
        have hs' : a.spot = none := hs.resolve_left (by omega)
        have hadd : ∀ i, a.add i = ⟨a.block, a.off + i, none⟩ := by
          intro i
          unfold Addr.add
          split
          · rename_i e; subst e
            obtain ⟨b, o, s⟩ := a
            simp only at hs'
            subst hs'
            rfl
          · obtain ⟨b, o, s⟩ := a
            simp only at hs'
            subst hs'
            rfl
        obtain ⟨_, arr, el, fr, hb, _⟩ := spot_of_cell (hcell 0 (by omega))
        rw [hadd] at hb
        simp only at hb
        have hget : ∀ i, i < zs.length → arr[a.off + i]? = some (.int k (zs.getD i 0)) := by
          intro i hi
          have := hcell i hi
          rw [hadd] at this
          obtain ⟨_, arr', el', fr', hb', h2⟩ := spot_of_cell this
          simp only at hb' h2
          rw [hb] at hb'
          cases hb'
          exact h2
        refine ⟨arr.toList.map old1, ?_, ?_, ?_⟩
        · unfold envOf; rw [hb]
        · have := (Array.getElem?_eq_some_iff.1 (hget (len - 1) (by omega))).1
          simp only [List.length_map, Array.length_toList]
          omega
        · refine List.ext_getElem? fun i => ?_
          rw [List.getElem?_take]
          split
          · rename_i hi
            rw [List.getElem?_drop, List.getElem?_map, Array.getElem?_toList, hget i (by omega), List.getElem?_map, List.getElem?_take, if_pos hi, List.getD_eq_getElem?_getD, List.getElem?_eq_getElem (by omega)]
            rfl
          · rename_i hi
            rw [List.getElem?_map, List.getElem?_take, if_neg hi]
            rfl

theorem mapM_get {α β : Type} {f : α → Option β} : ∀ {l : List α} {r : List β}, l.mapM f = some r → ∀ (i : Nat) (x : α), l[i]? = some x → ∃ y, r[i]? = some y ∧ f x = some y
  | [], r, h, i, x, hx => by simp at hx
  | a :: l, r, h, i, x, hx => by
    simp only [List.mapM_cons, Option.bind_eq_bind, Option.bind_eq_some_iff] at h
    obtain ⟨b, hb, bs, hbs, h⟩ := h
    cases h
    cases i with
    | zero => simp at hx; subst hx; exact ⟨b, rfl, hb⟩
    | succ i => 
      have hx' : l[i]? = some x := by simpa using hx
      obtain ⟨y, h1, h2⟩ := mapM_get hbs i x hx'
      exact ⟨y, by simpa using h1, h2⟩

theorem mapM_length {α β : Type} {f : α → Option β} : ∀ {l : List α} {r : List β}, l.mapM f = some r → r.length = l.length
  | [], r, h => by simp at h; subst h; rfl
  | a :: l, r, h => by
    simp only [List.mapM_cons, Option.bind_eq_bind, Option.bind_eq_some_iff] at h
    obtain ⟨b, hb, bs, hbs, h⟩ := h
    cases h
    simp [mapM_length hbs]

theorem op_cells {H : Type} {enc : TypeId × Value → H} {W : World} {hd : Bool} {n : Nat} {cs : List Value} {x : DataW H × List MemPlace} (h : DataW.trod enc Try.prog W 0 (fun _ => true) hd n 43 cs = some x) (hw : ∀ n ∈ DataW.weights Try.prog 43 x.1, n ≤ reachBytes) : ∃ o : OpA, cs.map old1 = o.cells ∧ o.Ok (envOf W) := by
  cases n with
  | zero => simp [DataW.trod] at h
  | succ n =>
    simp only [DataW.trod, Try.underlying43] at h
    have h8 : Try.prog.cellsOf 43 = 8 := by kernel_rfl
    have s3 : Try.prog.cellsOf 3 = 1 := by kernel_rfl
    have s9 : Try.prog.cellsOf 9 = 1 := by kernel_rfl
    have s22 : Try.prog.cellsOf 22 = 1 := by kernel_rfl
    have s23 : Try.prog.cellsOf 23 = 1 := by kernel_rfl
    have s2 : Try.prog.cellsOf 2 = 1 := by kernel_rfl
    rw [h8] at h
    split at h
    · rename_i hl
      simp only [Option.map_eq_some_iff] at h
      obtain ⟨ys, hm, hxy⟩ := h
      have each := mapM_each hm
      obtain ⟨y4', k4i, k4j⟩ := mapM_get hm 4 _ rfl
      obtain ⟨y1', k1i, k1j⟩ := mapM_get hm 1 _ rfl
      simp only [List.forall_mem_cons] at each
      obtain ⟨⟨y0, k0⟩, ⟨y1, k1⟩, ⟨y2, k2⟩, ⟨y3, k3⟩, ⟨y4, k4⟩, ⟨y5, k5⟩, ⟨y6, k6⟩, ⟨y7, k7⟩, _⟩ := each
      match cs, hl with
      | [c0, c1, c2, c3, c4, c5, c6, c7], _ =>
      simp only [s3, s9, s22, s23, s2, List.drop_zero, List.drop_succ_cons, List.take_succ_cons, List.take_zero] at k0 k1 k1j k2 k3 k4 k4j k5 k6 k7
      have hw4 : ∀ n ∈ DataW.weights Try.prog 22 y4'.1, n ≤ reachBytes := by
        intro n hn
        refine hw n ?_
        rw [← hxy]
        simp only [DataW.weights, Try.underlying43]
        exact DataW.weights_mem_each (j := 4) rfl (by rw [List.getElem?_map, k4i]; rfl) n hn
      obtain ⟨z0, e0, _⟩ := trod_int Try.underlying3 k0
      obtain ⟨z1, e1, e1'⟩ := trod_str Try.underlying9 k1j
      have hw1 : z1.data.toList.length < 2 ^ 62 := by
        have := hw (z1.data.toList.length) (by
          rw [← hxy]
          simp only [DataW.weights, Try.underlying43]
          refine DataW.weights_mem_each (j := 1) (t := 9) (d := y1'.1) rfl (by rw [List.getElem?_map, k1i]; rfl) _ ?_
          rw [e1']
          simp [DataW.weights])
        have := reachBytes_lt
        omega
      obtain ⟨z2, e2, _⟩ := trod_int Try.underlying3 k2
      obtain ⟨z3, e3, _⟩ := trod_int Try.underlying3 k3
      obtain ⟨c, e4, k4'⟩ := cell_ints Try.underlying22 Try.underlying23 s23 k4j hw4
      obtain ⟨z5, e5, w5⟩ := trod_int Try.underlying23 k5
      obtain ⟨z6, e6, _⟩ := trod_int Try.underlying2 k6
      obtain ⟨z7, e7, _⟩ := trod_int Try.underlying23 k7
      cases e0; cases e1; cases e2; cases e3; cases e4; cases e5; cases e6; cases e7
      have hw5 : 0 ≤ z5 ∧ z5 < 2 ^ 64 := by
        simp only [Lit.wf, Bool.and_eq_true, decide_eq_true_eq] at w5
        have h1 : IntKind.u64.min = 0 := rfl
        have h2 : IntKind.u64.max = 18446744073709551615 := rfl
        omega
      rcases k4' with k4' | ⟨b, i, len, cap, zs, g1, g2, g3, g4, g5, g6⟩
      · refine ⟨⟨z0, z1.data.toList, z2, z3, .nilSlc, [], z5, z6, z7⟩, ?_, ⟨.inl ⟨rfl, rfl⟩, hw5, by simp, hw1⟩⟩
        simp only [List.map_cons, List.map_nil, k4', OpA.cells]
        rfl
      · refine ⟨⟨z0, z1.data.toList, z2, z3, .slc (.old b) i len cap true 1, zs, z5, z6, z7⟩, ?_, ⟨.inr ⟨b, i, cap, true, 1, by rw [g4], ?_⟩, hw5, ?_, hw1⟩⟩
        · simp only [List.map_cons, List.map_nil, g1, OpA.cells]
          rfl
        · rw [g4]; exact g6
        · have hb : Try.prog.bytesOf 23 = 8 := by kernel_rfl
          have := reachBytes_lt
          rw [hb] at g3
          simp only
          omega
    · cases h

theorem weightsAll_mem {H : Type} {P : Program} {e : TypeId} : ∀ {l : List (DataW H)} {d : DataW H}, d ∈ l → ∀ n ∈ DataW.weights P e d, n ∈ DataW.weightsAll P e l
  | a :: l, d, h, n, hn => by
    simp only [DataW.weightsAll]
    rcases List.mem_cons.1 h with rfl | h
    · exact List.mem_append_left _ hn
    · exact List.mem_append_right _ (weightsAll_mem h n hn)

theorem script_of {H : Type} {enc : TypeId × Value → H} {W : World} {b0 : Nat} {r : Reach} {hd : Bool} {v : Value} {d : DataW H} {ps : List MemPlace} (hv : Value.okWide Try.prog W r b0 39 v) (h : DataW.Trod enc Try.prog W 0 (fun _ => true) hd 39 v d ps)
    (hw : ∀ n ∈ DataW.weights Try.prog 39 d, n ≤ reachBytes) : ∃ os, Script (envOf W) (oldV v) os ∧ os.length < 2 ^ 62 := by
  obtain ⟨fuel, hn⟩ := h
  obtain ⟨a0, l0, c0, rfl⟩ := okWide_slice Try.underlying39 hv
  have s43 : Try.prog.cellsOf 43 = 8 := by kernel_rfl
  have b43 : Try.prog.bytesOf 43 = 88 := by kernel_rfl
  rcases DataW.trod_slice Try.underlying39 hn with ⟨e1, _⟩ | ⟨a, len, cap, elems, rest, n, _, e1, hx, _, hl, hm, hlen, hel, hsp, _⟩
  · simp only [Value.cells] at e1
    cases e1
    exact ⟨[], .inl ⟨rfl, rfl⟩, by simp⟩
  · simp only [Value.cells] at e1
    have e2 : Value.slice a0 l0 c0 = .slice (some a) len cap := by simpa using e1
    rw [e2]
    have hd : d = .slice (elems.map (·.1)) (rest.map (·.1)) := by cases hx; rfl
    have hcell : ∀ {c : Addr} {cs : List Value}, W.cells? 0 c 8 = some cs → cs.length = 8 ∧ ∀ j, j < 8 → ∃ x, cs[j]? = some x ∧ W.cell? (c.add j) = some x := by
      intro c cs hc
      unfold World.cells? at hc
      rw [if_pos (Nat.zero_le _)] at hc
      refine ⟨by have := mapM_length hc; simpa using this, fun j hj => ?_⟩
      obtain ⟨y, h1, h2⟩ := mapM_get hc j j (by rw [List.getElem?_range hj])
      exact ⟨y, h1, h2⟩
    have hs : cap = 0 ∨ a.spot = none := by
      by_cases h0 : cap = 0
      · exact .inl h0
      · right
        by_cases hl0 : len = 0
        · obtain ⟨r1, r2⟩ := hsp rfl
          have := r2 0 (by omega)
          rw [s43, hl0, List.getElem?_eq_getElem (by omega)] at this
          obtain ⟨cs, h1, _⟩ := Option.bind_eq_some_iff.1 this
          obtain ⟨x, _, h2⟩ := (hcell h1).2 0 (by omega)
          exact (spot_of_cell h2).1
        · have := hel 0 (by omega)
          rw [s43, List.getElem?_eq_getElem (by omega)] at this
          obtain ⟨cs, h1, _⟩ := Option.bind_eq_some_iff.1 this
          obtain ⟨x, _, h2⟩ := (hcell h1).2 0 (by omega)
          exact (spot_of_cell h2).1
    have hval : oldV (.slice (some a) len cap) = .slc (.old a.block) a.off len cap true 1 := by
      simp only [oldV, old1]
      rw [if_pos ⟨hl, hs⟩]
    rw [hval]
    have hll : len < 2 ^ 62 := by
      have := hw ((elems.length + rest.length) * Try.prog.bytesOf 43) (by rw [hd]; simp [DataW.weights, Try.underlying39])
      have := reachBytes_lt
      rw [b43] at *
      omega
    have each : ∀ i, ∃ o : OpA, i < len → o.Ok (envOf W) ∧ ∃ cs, envOf W a.block = some cs ∧ (cs.drop (a.off + i * 8)).take 8 = o.cells := by
      intro i
      by_cases hi : i < len
      · have hi' := hel i hi
        rw [s43, List.getElem?_eq_getElem (by omega)] at hi'
        obtain ⟨cs, h1, h2⟩ := Option.bind_eq_some_iff.1 hi'
        obtain ⟨c1, c2⟩ := hcell h1
        have hwi : ∀ n ∈ DataW.weights Try.prog 43 (elems[i]'(by omega)).1, n ≤ reachBytes := by
          intro n hn
          refine hw n ?_
          rw [hd]
          simp only [DataW.weights, Try.underlying39]
          refine List.mem_cons_of_mem _ (List.mem_append_left _ (weightsAll_mem (d := (elems[i]'(by omega)).1) (List.mem_map.2 ⟨_, List.getElem_mem _, rfl⟩) n hn))
        obtain ⟨o, o1, o2⟩ := op_cells h2 hwi
        refine ⟨o, fun _ => ⟨o2, ?_⟩⟩
        have hs' : a.spot = none := hs.resolve_left (by omega)
        have hadd : ∀ j, (a.add (i * 8)).add j = ⟨a.block, a.off + i * 8 + j, none⟩ := by
          intro j
          obtain ⟨b, of, s⟩ := a
          simp only at hs'
          subst hs'
          unfold Addr.add
          split <;> split <;> simp_all
        obtain ⟨x0, _, hx0⟩ := c2 0 (by omega)
        rw [hadd] at hx0
        obtain ⟨_, arr, el, fr, hb, _⟩ := spot_of_cell hx0
        simp only at hb
        refine ⟨arr.toList.map old1, by unfold envOf; rw [hb], ?_⟩
        rw [← o1]
        refine List.ext_getElem? fun j => ?_
        rw [List.getElem?_take]
        split
        · rename_i hj
          obtain ⟨xj, hj1, hj2⟩ := c2 j hj
          rw [hadd] at hj2
          obtain ⟨_, arr', el', fr', hb', hj3⟩ := spot_of_cell hj2
          simp only at hb' hj3
          rw [hb] at hb'
          cases hb'
          rw [List.getElem?_drop, List.getElem?_map, Array.getElem?_toList, hj3, List.getElem?_map, hj1]
        · rename_i hj
          rw [List.getElem?_map, List.getElem?_eq_none (by omega)]
          rfl
      · exact ⟨⟨0, [], 0, 0, .nilSlc, [], 0, 0, 0⟩, fun h => (hi h).elim⟩
    obtain ⟨f, hf⟩ := Classical.axiomOfChoice each
    refine ⟨(List.range len).map f, .inr ⟨a.block, a.off, cap, true, 1, by simp, fun k o hk => ?_⟩, by simpa using hll⟩
    rw [List.getElem?_map] at hk
    by_cases hkl : k < len
    · rw [List.getElem?_range hkl] at hk
      cases hk
      exact hf k hkl
    · rw [List.getElem?_eq_none (by simpa using hkl)] at hk
      cases hk
end Go.Proofs.Ytjbpdmlpjgejcaa.hp
