/-
  Texts Pl Pm, as one.
-/
import Derived.Test.YtcboaonbfgjmgaaPz
/-
  Reading an instruction: what is read was written.
-/
open Go.Proofs Go Go.Am
namespace Go.Proofs.Ytcboaonbfgjmgaa.op
set_option linter.unusedVariables false
set_option linter.unusedSimpArgs false
set_option maxRecDepth 100000

section
variable {bs l m : List Int} {f : Fd} {s : Nat × Int} {p : Nat}

/-- What stands at a place. -/
def Seg (bs : List Int) (p : Nat) (l : List Int) : Prop := p + l.length ≤ bs.length ∧ (bs.drop p).take l.length = l
theorem Seg.append (h : Seg bs p l) (g : Seg bs (p + l.length) m) : Seg bs p (l ++ m) := by
  obtain ⟨h1, h2⟩ := h
  obtain ⟨g1, g2⟩ := g
  refine ⟨by rw [List.length_append]; omega, ?_⟩
  rw [List.length_append, List.take_add, h2, List.drop_drop, g2]
theorem Seg.nil (h : p ≤ bs.length) : Seg bs p [] := ⟨by simpa using h, rfl⟩

theorem rd_seg (hb : ∀ b ∈ bs, Byte b) (h8 : f.size ≤ 8) (h : (rdS bs f s).2.2 = 0) : s.2 = 0 ∧ f.may (rdS bs f s).1 = true ∧ (rdS bs f s).2.1 = s.1 + f.size ∧ Seg bs s.1 (fixS (rdS bs f s).1 f.size) := by
  have h0 := rdS_stick h
  obtain ⟨p, e⟩ := s
  simp only at h0
  subst h0
  obtain ⟨n, q, e, hr⟩ : ∃ n q e, rdS bs f (p, 0) = (n, q, e) := ⟨_, _, _, rfl⟩
  rw [hr] at h ⊢
  simp only at h
  subst h
  obtain ⟨a1, a2, a3, a4⟩ := rdS_is hb h8 hr
  exact ⟨rfl, a1, a2, by rw [fixS_length]; simp only; omega, by rw [fixS_length]; exact a4⟩

theorem rdS_le' (h : s.1 ≤ bs.length) : (rdS bs f s).2.1 ≤ bs.length := by
  unfold rdS
  split
  · exact h
  split
  · exact h
  · split
    · simp only; omega
    · exact h
theorem goodF_size (h : goodF f) : f.size ≤ 8 := by
  obtain ⟨_, h | h | h⟩ := h <;> omega
theorem may_i64 {n : Int} (h : goodF f) (hm : f.may n = true) : I64 n := by
  have hm := of_decide_eq_true hm
  obtain ⟨h1, ⟨h7, hlo, hhi⟩ | ⟨h7, hlo, hhi⟩ | ⟨h8, hlo, hhi⟩⟩ := h
  · have hle : (2 : Int) ^ (8 * f.size) ≤ 2 ^ 56 := by
      have : 2 ^ (8 * f.size) ≤ 2 ^ 56 := Nat.pow_le_pow_right (by decide) (by omega)
      exact_mod_cast this
    exact ⟨by omega, by omega⟩
  · have hle : (2 : Int) ^ (8 * f.size - 1) ≤ 2 ^ 56 := by
      have : 2 ^ (8 * f.size - 1) ≤ 2 ^ 56 := Nat.pow_le_pow_right (by decide) (by omega)
      exact_mod_cast this
    exact ⟨by omega, by omega⟩
  · exact ⟨by omega, by omega⟩

theorem fields_seg (hb : ∀ b ∈ bs, Byte b) {x : In} : ∀ {l : List Fd}, (∀ f ∈ l, goodF f) → l.length ≤ 2 → s.1 ≤ bs.length → (rdFields bs l s).2.2.2 = 0 → (x.a = (rdFields bs l s).1) → (2 ≤ l.length → x.b = (rdFields bs l s).2.1) →
    fldOk x 0 l = true ∧ Seg bs s.1 (fldB x 0 l) ∧ (rdFields bs l s).2.2.1 = s.1 + (fldB x 0 l).length ∧ I64 x.a ∧ (2 ≤ l.length → I64 x.b) ∧ (l.length < 2 → (rdFields bs l s).2.1 = 0) ∧ (l.length < 1 → x.a = 0)
  | [], _, _, hs, h, ha, _ => by
    have ha : x.a = 0 := ha
    exact ⟨rfl, Seg.nil hs, rfl, by rw [ha]; exact ⟨by decide, by decide⟩, fun h => by simp at h, fun _ => rfl, fun _ => ha⟩
  | [f], hg, _, hs, h, ha, _ => by
    have hf := hg f (by simp)
    obtain ⟨h0, h1, h2, h3⟩ := rd_seg hb (goodF_size hf) (show (rdS bs f s).2.2 = 0 from h)
    have ha : x.a = (rdS bs f s).1 := ha
    have hn : x.num 0 = (rdS bs f s).1 := ha
    refine ⟨by simp [fldOk, hn, h1], by simpa [fldB, hn] using h3, ?_, by rw [ha]; exact may_i64 hf h1, fun h => by simp at h, fun _ => rfl, fun h => by simp at h⟩
    simp only [fldB, hn, List.append_nil, fixS_length]
    exact h2
  | [f, g], hg, _, hs, h, ha, hbb => by
    have hf := hg f (by simp)
    have hg := hg g (by simp)
    have hb2 : x.b = (rdS bs g (rdS bs f s).2).1 := hbb (by simp)
    obtain ⟨k0, k1, k2, k3⟩ := rd_seg hb (goodF_size hg) (show (rdS bs g (rdS bs f s).2).2.2 = 0 from h)
    obtain ⟨h0, h1, h2, h3⟩ := rd_seg hb (goodF_size hf) k0
    have ha : x.a = (rdS bs f s).1 := ha
    have hn : x.num 0 = (rdS bs f s).1 := ha
    have hn1 : x.num 1 = (rdS bs g (rdS bs f s).2).1 := hb2
    refine ⟨by simp [fldOk, hn, hn1, h1, k1], ?_, ?_, by rw [ha]; exact may_i64 hf h1, fun _ => by rw [hb2]; exact may_i64 hg k1, fun h => by simp at h, fun h => by simp at h⟩
    · simp only [fldB, hn, hn1, List.append_nil]
      refine h3.append ?_
      rw [fixS_length, ← h2]; exact k3
    · simp only [fldB, hn, hn1, List.append_nil, List.length_append, fixS_length]
      show (rdS bs g (rdS bs f s).2).2.1 = _
      omega
  | _ :: _ :: _ :: _, _, h, _, _, _, _ => by simp at h

theorem arms_seg (hb : ∀ b ∈ bs, Byte b) {w : Int} : ∀ (n : Nat) (s : Nat × Int) (acc : List (Int × Int)), s.1 ≤ bs.length → (rdArms bs w n s acc).2.2 = 0 →
    ∃ new, (rdArms bs w n s acc).1 = acc ++ new ∧ new.length = n ∧ new.all (armOk w) = true ∧ Seg bs s.1 (armsB new) ∧ (rdArms bs w n s acc).2.1 = s.1 + (armsB new).length ∧ (∀ y ∈ new, I64 y.1 ∧ I64 y.2)
  | 0, s, acc, hs, h => ⟨[], by simp [rdArms], rfl, rfl, Seg.nil hs, rfl, fun y hy => by cases hy⟩
  | n + 1, s, acc, hs, h => by
    have h0 := rdArms_stick h
    have eE : rdArms bs w (n + 1) s acc = rdArms bs w n (rdS bs fLeap (rdS bs (vF w) s).2).2 (acc ++ [((rdS bs (vF w) s).1, (rdS bs fLeap (rdS bs (vF w) s).2).1)]) := by rw [rdArms, if_neg (by simp [h0])]
    rw [eE] at h ⊢
    obtain ⟨k0, k1, k2, k3⟩ := rd_seg hb (by decide) (rdArms_stick h : (rdS bs fLeap (rdS bs (vF w) s).2).2.2 = 0)
    obtain ⟨h0, h1, h2, h3⟩ := rd_seg hb (by show 8 ≤ 8; omega) k0
    have hle : (rdS bs fLeap (rdS bs (vF w) s).2).2.1 ≤ bs.length := by
      have := k3.1
      rw [fixS_length] at this
      omega
    obtain ⟨new, e1, e2, e3, e4, e5, e6⟩ := arms_seg hb n _ _ hle h
    have sz1 : (vF w).size = 8 := rfl
    have sz2 : fLeap.size = 4 := rfl
    refine ⟨((rdS bs (vF w) s).1, (rdS bs fLeap (rdS bs (vF w) s).2).1) :: new, by rw [e1]; simp, by simp [e2], ?_, ?_, ?_, ?_⟩
    · rw [List.all_cons, armOk_v, h1, k1, e3]; rfl
    · have : armsB (((rdS bs (vF w) s).1, (rdS bs fLeap (rdS bs (vF w) s).2).1) :: new) = (fixS (rdS bs (vF w) s).1 8 ++ fixS (rdS bs fLeap (rdS bs (vF w) s).2).1 4) ++ armsB new := by simp [armsB, armB]
      rw [this]
      refine (Seg.append h3 ?_).append ?_
      · rw [fixS_length, ← h2]; exact k3
      · rw [List.length_append, fixS_length, fixS_length]
        rw [sz1] at h2
        rw [sz2] at k2
        have : s.1 + (8 + 4) = (rdS bs fLeap (rdS bs (vF w) s).2).2.1 := by omega
        rw [sz1, this]; exact e4
    · rw [e5, armsB_length, armsB_length, List.length_cons]
      omega
    · intro y hy
      rcases List.mem_cons.1 hy with rfl | hy
      · exact ⟨may_i64 (goodF_v w) h1, may_i64 goodF_leap k1⟩
      · exact e6 y hy

/-- What is read was written. -/
theorem dec_is (hb : ∀ b ∈ bs, Byte b) (hp : p < bs.length) {op a b : Int} {arms : List (Int × Int)} {next : Nat} (h : decS bs p = ((op, a, b, arms), (next, 0))) {x : In} (hx : x.dat = (op, a, b, arms)) :
    x.Ok ∧ isS x = true ∧ Seg bs p (encB x) ∧ next = p + (encB x).length := by
  have hlay : lay (bs.getD p 0) ≠ none := by
    intro e
    unfold decS at h
    rw [if_pos e] at h
    have := congrArg (fun d => d.2.2) h
    simp at this
  have hX : decX bs p = ((op, a, b, arms), (next, 0)) := by
    unfold decS at h
    rw [if_neg hlay] at h
    by_cases h0 : (decX bs p).2.2 = 0
    · rw [if_neg (by simp [h0])] at h; exact h
    · rw [if_pos h0] at h
      have := congrArg (fun d => d.2.2) h
      exact (h0 this).elim
  obtain ⟨l, hl⟩ := Option.ne_none_iff_exists'.1 hlay
  obtain ⟨hx1, hx2, hx3, hx4⟩ : x.op = op ∧ x.a = a ∧ x.b = b ∧ x.arms = arms := by
    have e := hx
    unfold In.dat at e
    simp only [Prod.mk.injEq] at e
    exact e
  have hgood := goodF_lay (bs.getD p 0)
  have hlen := lay_length (op := bs.getD p 0)
  rw [hl] at hgood hlen
  simp only [Option.getD_some] at hgood hlen
  have hby : Byte (bs.getD p 0) := by
    rw [List.getD_eq_getElem?_getD, List.getElem?_eq_getElem hp]
    exact hb _ (List.getElem_mem _)
  have hseg0 : Seg bs p [bs.getD p 0] := by
    refine ⟨by simp; omega, ?_⟩
    rw [List.getD_eq_getElem?_getD, List.getElem?_eq_getElem hp]
    show (bs.drop p).take 1 = [bs[p]]
    rw [List.drop_eq_getElem_cons hp]
    rfl
  unfold decX at hX
  rw [hl, Option.getD_some] at hX
  by_cases h49 : bs.getD p 0 = 49
  · rw [if_pos h49] at hX
    have hl1 : l = [fWid] := lay49 hl h49
    subst hl1
    unfold decSw at hX
    obtain ⟨r, hr⟩ : ∃ r, r = rdFields bs [fWid] (p + 1, 0) := ⟨_, rfl⟩
    rw [← hr] at hX
    simp only [Prod.mk.injEq] at hX
    obtain ⟨⟨q1, q2, q3, q4⟩, q5⟩ := hX
    have t0 := congrArg Prod.snd q5
    simp only at t0
    obtain ⟨u0, u1, u2, u3⟩ := rd_seg hb (by decide) t0
    have v0 := rdArms_stick u0
    obtain ⟨w0, w1, w2, w3⟩ := rd_seg hb (by decide) v0
    have hop : x.op = 49 := by rw [hx1, ← q1]
    have ha : x.a = r.1 := by rw [hx2, ← q2]
    obtain ⟨y1, y2, y3, y4, y5, y6, y7⟩ := fields_seg (x := x) (s := (p + 1, 0)) hb hgood hlen (by simp only; omega) (by rw [← hr]; exact w0) (by rw [← hr]; exact ha) (fun h => by simp at h)
    rw [← hr] at y3
    have hle1 : r.2.2.1 ≤ bs.length := by rw [y3]; exact y2.1
    have hle2 : (rdS bs fIx r.2.2).2.1 ≤ bs.length := rdS_le' hle1
    obtain ⟨new, e1, e2, e3, e4, e5, e6⟩ := arms_seg hb _ _ _ hle2 u0
    rw [List.nil_append] at e1
    have harms : x.arms = new := by rw [hx4, ← q4, e1]
    have hb2 := hx3.trans q3.symm
    have hcnt := of_decide_eq_true w1
    have hcnt0 : 0 ≤ (rdS bs fIx r.2.2).1 ∧ (rdS bs fIx r.2.2).1 ≤ 65535 := hcnt
    have hn : ((new.length : Nat) : Int) = (rdS bs fIx r.2.2).1 := by rw [e2]; omega
    have hlv := of_decide_eq_true u1
    have hS : isS x = true := by
      unfold isS
      rw [hop, if_pos rfl, show lay 49 = some [fWid] from rfl, Option.getD_some, y1, harms, ha, e3, hb2]
      simp only [Option.isSome_some, Bool.true_and, Bool.and_true, Bool.and_eq_true, decide_eq_true_eq]
      exact ⟨by omega, hlv⟩
    have hE : encB x = [49] ++ fldB x 0 [fWid] ++ (fixS (rdS bs fIx r.2.2).1 2 ++ armsB new ++ fixS x.b 4) := by
      unfold encB
      rw [hop, if_pos rfl, show lay 49 = some [fWid] from rfl, Option.getD_some, harms, hn]
      simp
    have hsg : Seg bs p (encB x) := by
      rw [hE]
      rw [h49] at hseg0
      refine (hseg0.append y2).append (Seg.append (Seg.append ?_ ?_) ?_)
      · have : p + ([49] ++ fldB x 0 [fWid]).length = r.2.2.1 := by rw [y3, List.length_append]; simp; omega
        rw [this]; exact w3
      · have : p + ([49] ++ fldB x 0 [fWid]).length + (fixS (rdS bs fIx r.2.2).1 2).length = (rdS bs fIx r.2.2).2.1 := by
          rw [w2, y3, List.length_append, fixS_length]; show _ = _ + 2; simp; omega
        rw [this]; exact e4
      · have : p + ([49] ++ fldB x 0 [fWid]).length + (fixS (rdS bs fIx r.2.2).1 2 ++ armsB new).length = (rdArms bs (IntKind.u8.wrap r.1) (rdS bs fIx r.2.2).1.toNat (rdS bs fIx r.2.2).2 []).2.1 := by
          rw [e5, w2, y3, List.length_append, List.length_append, fixS_length]; show _ = _ + 2 + _; simp; omega
        rw [this, hb2]; exact u3
    refine ⟨⟨by rw [hop]; decide, y4, by rw [hb2]; exact may_i64 goodF_leap u1, by rw [harms]; exact e6, by rw [harms]; omega⟩, hS, hsg, ?_⟩
    have t1 := congrArg Prod.fst q5
    simp only at t1
    rw [← t1, u2, e5, w2, y3, hE]
    simp only [List.length_append, fixS_length, List.length_cons, List.length_nil]
    show _ + 2 + _ + 4 = _
    omega
  · rw [if_neg h49] at hX
    simp only [Prod.mk.injEq] at hX
    obtain ⟨⟨q1, q2, q3, q4⟩, q5⟩ := hX
    have t0 := congrArg Prod.snd q5
    simp only at t0
    have hop : x.op = bs.getD p 0 := by rw [hx1, ← q1]
    obtain ⟨y1, y2, y3, y4, y5, y6, y7⟩ := fields_seg (x := x) (s := (p + 1, 0)) hb hgood hlen (by simp only; omega) t0 (by rw [hx2, ← q2]) (fun _ => by rw [hx3, ← q3])
    have harms : x.arms = [] := by rw [hx4, ← q4]
    have hbz : l.length < 2 → x.b = 0 := fun h => by rw [hx3, ← q3]; exact y6 h
    have hop49 : x.op ≠ 49 := by rw [hop]; exact h49
    have hlx : lay x.op = some l := by rw [hop]; exact hl
    have hS : isS x = true := by
      unfold isS
      rw [if_neg hop49, hlx, Option.getD_some, y1, harms]
      simp only [Option.isSome_some, Bool.true_and, List.length_nil, decide_true, Bool.and_eq_true, Bool.or_eq_true, decide_eq_true_eq]
      refine ⟨?_, ?_⟩
      · by_cases h2 : 2 ≤ l.length
        · exact .inl h2
        · exact .inr (hbz (by omega))
      · by_cases h2 : 1 ≤ l.length
        · exact .inl h2
        · exact .inr (y7 (by omega))
    have hE : encB x = [bs.getD p 0] ++ fldB x 0 l := by
      unfold encB
      rw [if_neg hop49, hlx, Option.getD_some, hop]
      simp
    refine ⟨⟨by rw [hop]; exact hby, y4, ?_, (by rw [harms]; intro y hy; cases hy), by rw [harms]; decide⟩, hS, by rw [hE]; exact hseg0.append y2, ?_⟩
    · by_cases h2 : 2 ≤ l.length
      · exact y5 h2
      · rw [hbz (by omega)]; exact ⟨by decide, by decide⟩
    · have t1 := congrArg Prod.fst q5
      simp only at t1
      rw [← t1, y3, hE]
      simp
      omega
end
end Go.Proofs.Ytcboaonbfgjmgaa.op

/-
  OpsForth: its law.
-/
open Go.Proofs Go Go.Am
namespace Go.Proofs.Ytcboaonbfgjmgaa.op
open Go.Proofs.Ytcboaonbfgjmgaa.vb Go.Proofs.Ytcboaonbfgjmgaa.vr Go.Proofs.Ytcboaonbfgjmgaa.vw Go.Proofs.Ytcboaonbfgjmgaa.vd Go.Proofs.Ytcboaonbfgjmgaa.vs
set_option linter.unusedVariables false
set_option linter.unusedSimpArgs false
set_option maxRecDepth 100000

variable {E : Env} {w0 : World}

/-- The caller's bytes. -/
def OldCode (E : Env) (v : AV) (bs : List Int) : Prop :=
  bs.length < 2 ^ 48 ∧ (∀ b ∈ bs, Byte b) ∧ ((v = .nilSlc ∧ bs = []) ∨ ∃ b i cap ex, v = .slc (.old b) i bs.length cap ex 1 ∧ bs.length ≤ cap ∧ (bs = [] ∨ ∃ cs, E b = some cs ∧ i + bs.length ≤ cs.length ∧ (cs.drop i).take bs.length = bys bs))
theorem OldCode.code {v : AV} {bs : List Int} (h : OldCode E v bs) (X : Nat → Prop) (H : AHeap) : CodeAt E X H v bs := by
  obtain ⟨h0, h1, h⟩ := h
  refine ⟨h0, h1, ?_⟩
  rcases h with h | ⟨b, i, cap, ex, e, hc, hcs⟩
  · exact .inl h
  · refine .inr ⟨.old b, i, cap, ex, 1, e, .inl ?_⟩
    rcases hcs with h | ⟨cs, hE, hl, ht⟩
    · exact ⟨b, [], rfl, .inl h, fun j x hj => by rw [h] at hj; simp at hj⟩
    · refine ⟨b, cs, rfl, .inr hE, fun j x hj => ?_⟩
      have hlt : j < bs.length := (List.getElem?_eq_some_iff.1 hj).1
      have e := congrArg (fun l => l[j]?) ht
      simp only [bys, List.getElem?_map, hj, List.getElem?_take, if_pos hlt, Option.map_some, List.getElem?_drop] at e
      exact e
theorem OldCode.cut {v : AV} {bs : List Int} (h : OldCode E v bs) {lo hi : Nat} (h1 : lo < hi) (h2 : hi ≤ bs.length) (H : AHeap) :
    ∃ v', sliceA Try.prog H 27 v (some (.int .i64 (lo : Int))) (some (.int .i64 (hi : Int))) none = some v' ∧ (convA Try.prog E H 27 9 v').map (·.1) = some (.str (textOf ((bs.drop lo).take (hi - lo)))) := by
  obtain ⟨h0, _, h⟩ := h
  rcases h with ⟨_, h⟩ | ⟨b, i, cap, ex, rfl, hc, h | ⟨cs, hE, hl, ht⟩⟩
  · rw [h] at h2; simp at h2; omega
  · rw [h] at h2; simp at h2; omega
  · refine ⟨.slc (.old b) (i + lo) (hi - lo) (cap - lo) ex 1, ?_, ?_⟩
    · rw [sl_27o]
      simp only [boundsA, topA, highA, lowA, boundA, Option.bind_some]
      rw [if_pos ⟨by omega, by omega⟩]
      simp only [Option.bind_some]
      rw [if_pos ⟨by omega, by omega⟩]
      simp
    · rw [cv_27_9]
      have hcut : (cs.drop (i + lo)).take (hi - lo) = bys ((bs.drop lo).take (hi - lo)) := by
        have := congrArg (fun l => (l.drop lo).take (hi - lo)) ht
        simp only [List.drop_take, List.drop_drop, List.take_take] at this
        rw [Nat.min_eq_left (by omega)] at this
        rw [this, bys, bys, List.map_take, List.map_drop]
      unfold rangeOr
      rw [if_neg (by omega)]
      simp only [loadRange, cellsOf, hE]
      rw [if_pos (by omega), hcut, Option.bind_some, mapM_bytes]
      rfl

/-- Pick. -/
def pickS (n len : Int) : Int := if len < 1 then 0 else if n.tmod len < 0 then n.tmod len + len else n.tmod len
theorem pickS_in {n : Int} {len : Nat} (h : 1 ≤ len) : 0 ≤ pickS n len ∧ pickS n len < len := by
  unfold pickS
  rw [if_neg (by omega)]
  have h1 := Int.lt_tmod_of_pos n (show (0 : Int) < len by omega)
  have h2 := Int.tmod_lt_of_pos n (show (0 : Int) < len by omega)
  split <;> omega
theorem pick_ok {H : AHeap} {n : Int} {len : Nat} (hl : len < 2 ^ 48) : FnX Try.prog E w0 22 [.int .i64 n, .int .i64 (len : Int)] H fun v H' => v = .int .i64 (pickS n len) ∧ H' = H := by
  refine V22_ok ?_
  unfold V22 pickS
  rw [bin_lss, oS, condW_bool]
  refine ⟨fun h => ?_, fun h => ?_⟩
  · rw [if_pos (of_decide_eq_true h)]; exact ⟨rfl, rfl⟩
  · have h : ¬ (len : Int) < 1 := of_decide_eq_false h
    have h1 := Int.lt_tmod_of_pos n (show (0 : Int) < len by omega)
    have h2 := Int.tmod_lt_of_pos n (show (0 : Int) < len by omega)
    rw [if_neg h, bin_rem, if_neg (by omega), oS, bin_lss, oS, condW_bool]
    refine ⟨fun h => ?_, fun h => ?_⟩
    · rw [if_pos (of_decide_eq_true h), bin_add, oS, wrap_i64 (by omega) (by omega)]; exact ⟨rfl, rfl⟩
    · rw [if_neg (of_decide_eq_false h)]; exact ⟨rfl, rfl⟩

theorem decT_err {bs : List Int} {n : Int} (h : (decT bs n).2.2 ≠ 0) : (decT bs n).1 = zDat ∧ (decT bs n).2.1 = 0 := by
  unfold decT at h ⊢
  split
  · exact ⟨rfl, rfl⟩
  · rename_i hn
    rw [if_neg hn] at h
    unfold decS at h ⊢
    split
    · exact ⟨rfl, rfl⟩
    · rename_i hl
      rw [if_neg hl] at h
      split
      · exact ⟨rfl, rfl⟩
      · rename_i h0
        rw [if_neg h0] at h
        exact (h0 h).elim
theorem decT_is {bs : List Int} (hb : ∀ b ∈ bs, Byte b) {n : Int} (h : (decT bs n).2.2 = 0) {x : In} (hx : x.dat = (decT bs n).1) :
    0 ≤ n ∧ n.toNat < bs.length ∧ x.Ok ∧ isS x = true ∧ Seg bs n.toNat (encB x) ∧ (decT bs n).2.1 = n.toNat + (encB x).length := by
  by_cases hn : n < 0 ∨ n ≥ bs.length
  · unfold decT at h
    rw [if_pos hn] at h
    simp at h
  · have hd : decT bs n = decS bs n.toNat := by unfold decT; rw [if_neg hn]
    rw [hd] at h hx ⊢
    obtain ⟨d, next, e, hde⟩ : ∃ d next e, decS bs n.toNat = (d, (next, e)) := ⟨_, _, _, rfl⟩
    obtain ⟨op, a, b, arms⟩ := d
    rw [hde] at h hx ⊢
    simp only at h hx ⊢
    subst h
    obtain ⟨a1, a2, a3, a4⟩ := dec_is hb (by omega) hde hx
    exact ⟨by omega, by omega, a1, a2, a3, a4⟩

theorem forth_law {H : AHeap} {cv : AV} {bs : List Int} {n : Int} (hc : OldCode E cv bs) : FnW Try.prog E w0 5 [cv, .int .i64 n] H fun v _ => v = .bool true := by
  refine fnW_fine fun F => ?_
  refine vg.V5_ok ?_
  unfold vg.V5
  have hlen := (hc.code All H).len
  have hl := hc.1
  rw [hlen, oS, bin_gtr, oS, condW_bool]
  refine ⟨fun _ => works_ok.toW, fun hsz => ?_⟩
  have hsz : bs.length ≤ 65536 := by have : ¬ (bs.length : Int) > 65536 := of_decide_eq_false hsz; omega
  rw [oS]
  refine (pick_ok hl).toW.use ?_
  rintro v H1 ⟨rfl, e1⟩ F1 _
  have e2 := e1.symm
  clear e1
  subst e2
  refine (decode_ok F (hc.code All H) (n := pickS n bs.length)).use ?_
  obtain ⟨d, hd⟩ : ∃ d, d = decT bs (pickS n bs.length) := ⟨_, rfl⟩
  rw [← hd]
  rintro v H2 ⟨s2, av, rfl, A2⟩ F2 n2
  simp only [ex0, ex1, ex2, oS]
  obtain ⟨y, hy⟩ : ∃ y : In, y = ⟨d.1.1, d.1.2.1, d.1.2.2.1, av, d.1.2.2.2⟩ := ⟨_, rfl⟩
  have hyc : (AV.agg [.int .u8 d.1.1, .int .i64 d.1.2.1, .int .i64 d.1.2.2.1, av]) = .agg y.cells := by rw [hy]; rfl
  have hys : y.cells.all Am.scalar = true := by
    rw [hy]
    rcases A2 with ⟨rfl, _⟩ | ⟨o, i, cap, ex, sz, rfl, _⟩ <;> rfl
  have hyd : y.dat = d.1 := by rw [hy]; rfl
  have A2' : ArmsAt E All H2 y.av y.arms := by rw [hy]; exact A2.less F2 fun _ _ _ => trivial
  rw [hyc]
  refine box24 F2 (by rw [hy]; rfl) hys fun H3 F3 s3 n3 g3 => ?_
  rw [nev_28, oS]
  by_cases he : d.2.2 = 0
  case neg =>
    rw [show (d.2.2 != 0) = true by simp [he], cT]
    obtain ⟨z1, z2⟩ := decT_err (bs := bs) (n := pickS n bs.length) (by rw [← hd]; exact he)
    rw [← hd] at z1 z2
    have hop : y.op = 0 := by rw [hy]; simp only; rw [z1]; rfl
    rw [fa_24_0, oS, Nat.add_zero, (In.loads (E := E) g3).1, oS, hop, eqv_5, oS, z2]
    simp only [BEq.rfl, wB, btt, vT, oS, eqv_3, Int.natCast_zero, pB, if_true, gT]
    refine works_ok.toW.use ?_
    rintro v H4 rfl _ _
    rfl
  rw [show (d.2.2 != 0) = false by simp [he], cF]
  obtain ⟨q0, q1, hyo, hS, hseg, hnx⟩ := decT_is hc.2.1 (n := pickS n bs.length) (x := y) (by rw [← hd]; exact he) (by rw [← hd]; exact hyd)
  rw [← hd] at hnx
  rw [(In.loads (E := E) g3).2.2.2.2, oS]
  refine (encode_ok F3 hyo (A2'.keep (Keeps.of s3))).toW.use ?_
  rintro v H4 ⟨s4, r, k, rfl, B4, hk, _⟩ F4 n4
  rw [hS] at B4 ⊢
  simp only [if_true] at B4 ⊢
  obtain ⟨at_, hat⟩ : ∃ at_ : Nat, pickS n bs.length = (at_ : Int) := ⟨(pickS n bs.length).toNat, by omega⟩
  rw [hat] at hseg hnx q1 ⊢
  rw [Int.toNat_natCast] at hseg hnx q1
  have hpos := enc_pos y
  have hle := hseg.1
  obtain ⟨v', c1, c2⟩ := hc.cut (lo := at_) (hi := at_ + (encB y).length) (by omega) (by omega) H4
  rw [Nat.add_sub_cancel_left, hseg.2] at c2
  have g4 := s4 _ _ _ g3
  have d1 : decide (((at_ + (encB y).length : Nat) : Int) > (at_ : Int)) = true := decide_eq_true (by omega)
  have d2 : decide (((at_ + (encB y).length : Nat) : Int) ≤ (bs.length : Int)) = true := decide_eq_true (by omega)
  simp only [ex0, ex1, oS, eqv_28, BEq.rfl, wB, btt, vT, bin_gtr, hnx, pB, if_true, hlen, bin_leq, d1, d2, B4.text, c1, c2, eqv_9, (In.loads (E := E) g4).2.2.2.2, gT, true_and]
  refine (size_ok F4 hyo (A2'.keep (Keeps.of (stays_trans s3 s4)))).use ?_
  rintro v H5 ⟨s5, rfl⟩ F5 n5
  rw [hS, if_pos rfl]
  simp only [vT, oS, bin_sub, true_and]
  rw [wrap_i64 (by omega) (by omega), eqv_3, show (((encB y).length : Int) == ((at_ + (encB y).length : Nat) : Int) - (at_ : Int)) = true by simp only [beq_iff_eq]; omega]
  simp only [oS, pB, if_true, wB, btt, gT]
  refine works_ok.use ?_
  rintro v H6 rfl _ _
  rfl
/-- Bytes that are too many. -/
def Much (v : AV) : Prop := ∃ o i len cap ex sz, v = .slc o i len cap ex sz ∧ len > 65536
theorem forth_much {H : AHeap} {cv : AV} {n : Int} (hc : Much cv) : FnW Try.prog E w0 5 [cv, .int .i64 n] H fun v _ => v = .bool true := by
  obtain ⟨o, i, len, cap, ex, sz, rfl, hl⟩ := hc
  refine vg.V5_ok ?_
  unfold vg.V5
  rw [len_27, oS, bin_gtr, oS, dT (show (len : Int) > 65536 by omega), cT]
  exact works_ok.toW
end Go.Proofs.Ytcboaonbfgjmgaa.op
