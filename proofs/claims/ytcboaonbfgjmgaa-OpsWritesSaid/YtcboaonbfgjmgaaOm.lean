/-
  Instructions of the caller's, read.
-/
import Derived.Test.YtcboaonbfgjmgaaOd
import Derived.Test.YtcboaonbfgjmgaaAm33
import Derived.SizedLaws
open Go.Proofs Go Go.Am
namespace Go.Proofs.Ytcboaonbfgjmgaa.op
open Go.ChangeShapes Go.WideShapes Go.ChangeAt Go.RowKit
set_option linter.unusedVariables false
set_option linter.unusedSimpArgs false
set_option maxRecDepth 100000

theorem own : ownKnob Try.prog.godebug = none := by kernel_rfl
theorem laid : laidOutB Try.prog = true := by kernel_rfl

section
variable {H : Type} {enc : TypeId × Value → H} {P : Program} {W : World} {b0 : Nat} {sp : Nat → Bool} {hd : Bool}

theorem trod_int {n : Nat} {t : TypeId} {k : IntKind} {cs : List Value} {x : DataW H × List MemPlace} (ht : P.underlying t = some (.int k)) (h : DataW.trod enc P W b0 sp hd n t cs = some x) : ∃ z, cs = [.int k z] ∧ (Lit.int k z).wf = true := by
  cases n with
  | zero => simp [DataW.trod] at h
  | succ n =>
    simp only [DataW.trod, ht] at h
    split at h
    all_goals (first | (cases h; done) | skip)
    all_goals simp_all
    all_goals (first | (obtain ⟨⟨rfl, h2⟩, _⟩ := h; exact ⟨_, ⟨rfl, rfl⟩, h2⟩) | skip)
end

theorem mapM_get {α β : Type} {f : α → Option β} : ∀ {l : List α} {r : List β}, l.mapM f = some r → ∀ (i : Nat) (x : α), l[i]? = some x → ∃ y, r[i]? = some y ∧ f x = some y
  | [], r, h, i, x, hx => by simp at hx
  | a :: l, r, h, i, x, hx => by
    simp only [List.mapM_cons, Option.bind_eq_bind, Option.bind_eq_some_iff] at h
    obtain ⟨b, hb, bs, hbs, h⟩ := h
    cases h
    cases i with
    | zero => simp at hx; subst hx; exact ⟨b, rfl, hb⟩
    | succ i =>
      have hx' : l[i]? = some x := by simpa using hx
      obtain ⟨y, h1, h2⟩ := mapM_get hbs i x hx'
      exact ⟨y, by simpa using h1, h2⟩
theorem mapM_length {α β : Type} {f : α → Option β} : ∀ {l : List α} {r : List β}, l.mapM f = some r → r.length = l.length
  | [], r, h => by simp at h; subst h; rfl
  | a :: l, r, h => by
    simp only [List.mapM_cons, Option.bind_eq_bind, Option.bind_eq_some_iff] at h
    obtain ⟨b, hb, bs, hbs, h⟩ := h
    cases h
    simp [mapM_length hbs]
theorem weightsAll_mem {H : Type} {P : Program} {e : TypeId} : ∀ {l : List (DataW H)} {d : DataW H}, d ∈ l → ∀ n ∈ DataW.weights P e d, n ∈ DataW.weightsAll P e l
  | a :: l, d, h, n, hn => by
    simp only [DataW.weightsAll]
    rcases List.mem_cons.1 h with rfl | h
    · exact List.mem_append_left _ hn
    · exact List.mem_append_right _ (weightsAll_mem h n hn)

/-- A slice of things of a size: its cells. -/
theorem slice_cells {H : Type} {enc : TypeId × Value → H} {P : Program} {W : World} {hd : Bool} {n : Nat} {t e : TypeId} {sz : Nat} {cs : List Value} {x : DataW H × List MemPlace} (ht : P.underlying t = some (.slice e)) (hc : P.cellsOf e = sz) (hsz : 0 < sz)
    (h : DataW.trod enc P W 0 (fun _ => true) hd n t cs = some x) : ∃ c, cs = [c] ∧ ((old1 c = .nilSlc) ∨ ∃ (b i len cap m : Nat) (els : List (DataW H × List MemPlace)), old1 c = .slc (.old b) i len cap true 1 ∧ els.length = len ∧ (∀ d ∈ els, ∀ k ∈ DataW.weights P e d.1, k ∈ DataW.weights P t x.1) ∧
      (∀ k : Nat, len * P.bytesOf e ≤ k ∨ k ∈ DataW.weights P t x.1 ∨ True) ∧ (∃ k ∈ DataW.weights P t x.1, len * P.bytesOf e ≤ k) ∧
      ∀ j d, els[j]? = some d → ∃ (all : List AV) (vs : List Value), envOf W b = some all ∧ (all.drop (i + j * sz)).take sz = vs.map old1 ∧ DataW.trod enc P W 0 (fun _ => true) hd m e vs = some d) := by
  rcases DataW.trod_slice ht h with ⟨e1, _⟩ | ⟨a, len, cap, elems, rest, m, _, e1, hx, _, hl, hm, hlen, hel, hsp, _⟩
  · exact ⟨_, e1, .inl rfl⟩
  · refine ⟨_, e1, .inr ?_⟩
    have hd' : x.1 = .slice (elems.map (·.1)) (rest.map (·.1)) := by rw [hx]
    have hcell : ∀ {c : Addr} {cs : List Value}, W.cells? 0 c sz = some cs → cs.length = sz ∧ ∀ j, j < sz → ∃ x, cs[j]? = some x ∧ W.cell? (c.add j) = some x := by
      intro c cs hc
      unfold World.cells? at hc
      rw [if_pos (Nat.zero_le _)] at hc
      refine ⟨by have := mapM_length hc; simpa using this, fun j hj => ?_⟩
      obtain ⟨y, h1, h2⟩ := mapM_get hc j j (by rw [List.getElem?_range hj])
      exact ⟨y, h1, h2⟩
    have hs : cap = 0 ∨ a.spot = none := by
      by_cases h0 : cap = 0
      · exact .inl h0
      · right
        by_cases hl0 : len = 0
        · obtain ⟨r1, r2⟩ := hsp rfl
          have := r2 0 (by omega)
          rw [hc, hl0, List.getElem?_eq_getElem (by omega)] at this
          obtain ⟨cs, h1, _⟩ := Option.bind_eq_some_iff.1 this
          obtain ⟨x, _, h2⟩ := (hcell h1).2 0 hsz
          simp only [Nat.add_zero, Nat.zero_mul] at h2
          exact (spot_of_cell h2).1
        · have := hel 0 (by omega)
          rw [hc, List.getElem?_eq_getElem (by omega)] at this
          obtain ⟨cs, h1, _⟩ := Option.bind_eq_some_iff.1 this
          obtain ⟨x, _, h2⟩ := (hcell h1).2 0 hsz
          simp only [Nat.add_zero, Nat.zero_mul] at h2
          exact (spot_of_cell h2).1
    refine ⟨a.block, a.off, len, cap, m, elems, ?_, hlen, ?_, fun _ => .inr (.inr trivial), ⟨(elems.length + rest.length) * P.bytesOf e, ?_, ?_⟩, ?_⟩
    · simp only [old1]
      rw [if_pos ⟨hl, hs⟩]
    · intro d hdm k hk
      rw [hd']
      simp only [DataW.weights, ht]
      exact List.mem_cons_of_mem _ (List.mem_append_left _ (weightsAll_mem (d := d.1) (List.mem_map.2 ⟨d, hdm, rfl⟩) k hk))
    · rw [hd']; simp [DataW.weights, ht]
    · rw [hlen]; exact Nat.mul_le_mul_right _ (by omega)
    · intro i d hid
      have hi : i < len := by have := (List.getElem?_eq_some_iff.1 hid).1; omega
      have hi' := hel i hi
      rw [hc, hid] at hi'
      obtain ⟨cs, h1, h2⟩ := Option.bind_eq_some_iff.1 hi'
      obtain ⟨c1, c2⟩ := hcell h1
      have hs' : a.spot = none := hs.resolve_left (by omega)
      have hadd : ∀ j, (a.add (i * sz)).add j = ⟨a.block, a.off + i * sz + j, none⟩ := by
        intro j
        obtain ⟨b, of, s⟩ := a
        simp only at hs'
        subst hs'
        unfold Addr.add
        split <;> split <;> simp_all
      obtain ⟨x0, _, hx0⟩ := c2 0 hsz
      rw [hadd] at hx0
      obtain ⟨_, arr, el, fr, hb, _⟩ := spot_of_cell hx0
      simp only at hb
      refine ⟨arr.toList.map old1, cs, by unfold envOf; rw [hb], ?_, h2⟩
      refine List.ext_getElem? fun j => ?_
      rw [List.getElem?_take]
      split
      · rename_i hj
        obtain ⟨xj, hj1, hj2⟩ := c2 j hj
        rw [hadd] at hj2
        obtain ⟨_, arr', el', fr', hb', hj3⟩ := spot_of_cell hj2
        simp only at hb' hj3
        rw [hb] at hb'
        cases hb'
        rw [List.getElem?_drop, List.getElem?_map, Array.getElem?_toList, hj3, List.getElem?_map, hj1]
      · rename_i hj
        rw [List.getElem?_map, List.getElem?_eq_none (by omega)]
        rfl

theorem wf_i64 {z : Int} (h : (Lit.int .i64 z).wf = true) : I64 z := by
  simp only [Lit.wf, Bool.and_eq_true, decide_eq_true_eq] at h
  have h1 : IntKind.i64.min = -9223372036854775808 := rfl
  have h2 : IntKind.i64.max = 9223372036854775807 := rfl
  unfold I64
  omega
theorem wf_u8 {z : Int} (h : (Lit.int .u8 z).wf = true) : 0 ≤ z ∧ z ≤ 255 := by
  simp only [Lit.wf, Bool.and_eq_true, decide_eq_true_eq] at h
  have h1 : IntKind.u8.min = 0 := rfl
  have h2 : IntKind.u8.max = 255 := rfl
  omega

theorem arm_cells {H : Type} {enc : TypeId × Value → H} {W : World} {hd : Bool} {n : Nat} {cs : List Value} {x : DataW H × List MemPlace} (h : DataW.trod enc Try.prog W 0 (fun _ => true) hd n 49 cs = some x) : ∃ y : Int × Int, cs.map old1 = armc y ∧ I64 y.1 ∧ I64 y.2 := by
  cases n with
  | zero => simp [DataW.trod] at h
  | succ n =>
    simp only [DataW.trod, Try.underlying49] at h
    have s49 : Try.prog.cellsOf 49 = 2 := by kernel_rfl
    have s2 : Try.prog.cellsOf 2 = 1 := by kernel_rfl
    have s3 : Try.prog.cellsOf 3 = 1 := by kernel_rfl
    rw [s49] at h
    split at h
    · rename_i hl
      simp only [Option.map_eq_some_iff] at h
      obtain ⟨ys, hm, hxy⟩ := h
      have each := mapM_each hm
      simp only [List.forall_mem_cons] at each
      obtain ⟨⟨y0, k0⟩, ⟨y1, k1⟩, _⟩ := each
      match cs, hl with
      | [c0, c1], _ =>
      simp only [s2, s3, List.drop_zero, List.drop_succ_cons, List.take_succ_cons, List.take_zero] at k0 k1
      obtain ⟨z0, e0, w0⟩ := trod_int Try.underlying2 k0
      obtain ⟨z1, e1, w1⟩ := trod_int Try.underlying3 k1
      cases e0; cases e1
      exact ⟨(z0, z1), rfl, wf_i64 w0, wf_i64 w1⟩
    · cases h

theorem arms_of {H : Type} {enc : TypeId × Value → H} {W : World} {hd : Bool} {n : Nat} {cs : List Value} {x : DataW H × List MemPlace} (h : DataW.trod enc Try.prog W 0 (fun _ => true) hd n 22 cs = some x) (hw : ∀ n ∈ DataW.weights Try.prog 22 x.1, n ≤ reachBytes) :
    ∃ c arms, cs = [c] ∧ (∀ H', ArmsAt (envOf W) All H' (old1 c) arms) ∧ (∀ y ∈ arms, I64 y.1 ∧ I64 y.2) ∧ arms.length < 2 ^ 44 ∧ Am.scalar (old1 c) = true := by
  have s49 : Try.prog.cellsOf 49 = 2 := by kernel_rfl
  have b49 : Try.prog.bytesOf 49 = 16 := by kernel_rfl
  obtain ⟨c, e, h | ⟨b, i, len, cap, m, els, h1, h2, h3, _, ⟨k, h4, h5⟩, h6⟩⟩ := slice_cells (sz := 2) Try.underlying22 s49 (by decide) h
  · exact ⟨c, [], e, fun H' => .inl ⟨h, rfl⟩, by simp, by simp, by rw [h]; rfl⟩
  · have each : ∀ j, ∃ y : Int × Int, j < len → (I64 y.1 ∧ I64 y.2) ∧ ∃ all, envOf W b = some all ∧ (all.drop (i + j * 2)).take 2 = armc y := by
      intro j
      by_cases hj : j < len
      · obtain ⟨all, vs, g1, g2, g3⟩ := h6 j _ (List.getElem?_eq_getElem (by omega : j < els.length))
        obtain ⟨y, y1, y2⟩ := arm_cells g3
        exact ⟨y, fun _ => ⟨y2, all, g1, by rw [g2, y1]⟩⟩
      · exact ⟨(0, 0), fun h => (hj h).elim⟩
    obtain ⟨f, hf⟩ := Classical.axiomOfChoice each
    refine ⟨c, (List.range len).map f, e, fun H' => .inr ⟨.old b, i, cap, true, 1, by rw [h1]; simp, .inl ?_⟩, ?_, ?_, by rw [h1]; rfl⟩
    · by_cases h0 : len = 0
      · subst h0
        exact ⟨b, [], rfl, .inl rfl, fun j x hj => by simp at hj⟩
      · obtain ⟨_, all, g1, _⟩ := hf 0 (by omega)
        refine ⟨b, all, rfl, .inr g1, fun j x hj => ?_⟩
        have hjl : j < len := by have := (List.getElem?_eq_some_iff.1 hj).1; simpa using this
        rw [List.getElem?_map, List.getElem?_range hjl] at hj
        cases hj
        obtain ⟨_, all', g1', g2'⟩ := hf j hjl
        rw [g1] at g1'
        cases g1'
        exact g2'
    · intro y hy
      obtain ⟨j, hj, rfl⟩ := List.mem_map.1 hy
      exact (hf j (List.mem_range.1 hj)).1
    · have := hw k h4
      have := reachBytes_lt
      rw [b49] at h5
      simp only [List.length_map, List.length_range]
      omega

theorem instr_cells {H : Type} {enc : TypeId × Value → H} {W : World} {hd : Bool} {n : Nat} {cs : List Value} {x : DataW H × List MemPlace} (h : DataW.trod enc Try.prog W 0 (fun _ => true) hd n 24 cs = some x) (hw : ∀ n ∈ DataW.weights Try.prog 24 x.1, n ≤ reachBytes) :
    ∃ y : In, cs.map old1 = y.cells ∧ y.Ok ∧ (∀ H', ArmsAt (envOf W) All H' y.av y.arms) ∧ Am.scalar y.av = true := by
  cases n with
  | zero => simp [DataW.trod] at h
  | succ n =>
    simp only [DataW.trod, Try.underlying24] at h
    have s24 : Try.prog.cellsOf 24 = 4 := by kernel_rfl
    have s2 : Try.prog.cellsOf 2 = 1 := by kernel_rfl
    have s5 : Try.prog.cellsOf 5 = 1 := by kernel_rfl
    have s22 : Try.prog.cellsOf 22 = 1 := by kernel_rfl
    rw [s24] at h
    split at h
    · rename_i hl
      simp only [Option.map_eq_some_iff] at h
      obtain ⟨ys, hm, hxy⟩ := h
      have each := mapM_each hm
      obtain ⟨y3', k3i, k3j⟩ := mapM_get hm 3 _ rfl
      simp only [List.forall_mem_cons] at each
      obtain ⟨⟨y0, k0⟩, ⟨y1, k1⟩, ⟨y2, k2⟩, _⟩ := each
      match cs, hl with
      | [c0, c1, c2, c3], _ =>
      simp only [s2, s5, s22, List.drop_zero, List.drop_succ_cons, List.take_succ_cons, List.take_zero] at k0 k1 k2 k3j
      have hw3 : ∀ n ∈ DataW.weights Try.prog 22 y3'.1, n ≤ reachBytes := by
        intro n hn
        refine hw n ?_
        rw [← hxy]
        simp only [DataW.weights, Try.underlying24]
        exact DataW.weights_mem_each (j := 3) rfl (by rw [List.getElem?_map, k3i]; rfl) n hn
      obtain ⟨z0, e0, w0⟩ := trod_int Try.underlying5 k0
      obtain ⟨z1, e1, w1⟩ := trod_int Try.underlying2 k1
      obtain ⟨z2, e2, w2⟩ := trod_int Try.underlying2 k2
      obtain ⟨c, arms, e3, h1, h2, h3, h4⟩ := arms_of k3j hw3
      cases e0; cases e1; cases e2; cases e3
      exact ⟨⟨z0, z1, z2, old1 c3, arms⟩, rfl, ⟨wf_u8 w0, wf_i64 w1, wf_i64 w2, h2, h3⟩, h1, h4⟩
    · cases h
end Go.Proofs.Ytcboaonbfgjmgaa.op
