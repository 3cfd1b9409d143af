/-
  Code and calls over a heap with more in it.
-/
import Derived.Test.YtcboaonbfgjmgaaAm24
namespace Go.Am

def trsOf (d : Done) : List Tr := d.kv.map fun x => .put x.1 x.2 (decide (x.1 < d.lo))

theorem aps_kv {lo : Nat} : ∀ (kv : List (Nat × Option AObj)) (H : AHeap), aps (kv.map fun x => .put x.1 x.2 (decide (x.1 < lo))) H = putAll lo kv H
  | [], _ => rfl
  | x :: l, H => by
    simp only [List.map_cons, aps, putAll, aps_kv l, Tr.ap, decide_eq_true_eq]

theorem aps_all : ∀ (ds : List Done) (H : AHeap), aps (ds.flatMap trsOf) H = allR ds H
  | [], _ => rfl
  | d :: ds, H => by
    rw [List.flatMap_cons, aps_append, aps_all ds, allR]
    rw [show aps (trsOf d) H = putAll d.lo d.kv H from aps_kv d.kv H]

theorem allR_pre {n : Nat} : ∀ (ds : List Done) (a : Nat) (H : AHeap), Ch a ds n → (∀ k o, H.get k = some o → ∀ p ∈ preOf o, p < a) → ∀ k o, (allR ds H).get k = some o → ∀ p ∈ preOf o, p < n
  | [], a, H, hc, h => by simp only [Ch] at hc; subst hc; exact h
  | d :: ds, a, H, hc, h => by
    obtain ⟨rfl, ok, hc'⟩ := hc
    simp only [allR]
    refine allR_pre ds d.hi _ hc' ?_
    obtain ⟨g, hg⟩ := ok.val
    intro k o hk p hp
    rw [get_putAll k _ H hg] at hk
    split at hk
    · rename_i hkey
      obtain ⟨x, hx, rfl⟩ := List.mem_map.1 hkey
      have : (x.1, some o) ∈ d.kv := by
        have := hg x hx
        rw [hk] at this
        rw [← this]; exact hx
      exact ok.pre _ _ this p hp
    · exact Nat.lt_of_lt_of_le (h k o hk p hp) ok.le

section
variable {P : Program} {E : Env} {call : CallF}

theorem Good.nil {ops : Array Oper} (H : AHeap) (T : List AV) : Good P E call ops H T [] T H.next := by
  refine ⟨rfl, rfl, ?_, ?_, ?_, ?_, ?_, ?_⟩ <;> intros <;> simp_all

theorem drawA_trs (hc : CallTrs call) {ops : Array Oper} {T : List AV} {M : AHeap} {T' : List AV} {M' : AHeap} (hw : Wf M) (h : drawA P E call ops ops.toList [] T M M.next = some (T', M')) :
    ∃ ts, M' = aps ts M ∧ Tame M ts ∧ Wf M' ∧ ∀ H, Sub M H → Free H M.next M'.next → drawA P E call ops ops.toList [] T H H.next = some (T', aps ts H) := by
  obtain ⟨dsF, nF, g1, g2, g3, g4, g5⟩ := drawA_good hc hw ops.toList [] T M.next T' M' (Good.nil M T) rfl h
  have haps : ∀ H, aps (dsF.flatMap trsOf ++ [.next nF]) H = { allR dsF H with next := nF } := fun H => by
    rw [aps_append, aps_all]; rfl
  refine ⟨dsF.flatMap trsOf ++ [.next nF], ?_, ?_, ?_, ?_⟩
  · rw [haps, g3]
  · refine ⟨by rw [haps]; exact g4, ?_⟩
    rw [haps]
    intro k o lg hm
    rcases List.mem_append.1 hm with hm | hm
    · obtain ⟨d, hd, hm⟩ := List.mem_flatMap.1 hm
      obtain ⟨i, hi⟩ := List.mem_iff_getElem?.1 hd
      obtain ⟨ok, k1, k2⟩ := g1.ch.at i d hi
      obtain ⟨x, hx, e⟩ := List.mem_map.1 hm
      cases e
      refine ⟨fun e => ?_, Nat.lt_of_lt_of_le (ok.key _ (List.mem_map_of_mem hx)) k2⟩
      have := of_decide_eq_false e
      omega
    · simp at hm
  · rw [g3]
    refine ⟨fun k hk => ?_, ?_⟩
    · have hk' : nF ≤ k := hk
      show (allR dsF M).get k = none
      rw [← aps_all, aps_untouched, hw.1 k (by omega)]
      intro o lg hm
      obtain ⟨d, hd, hm⟩ := List.mem_flatMap.1 hm
      obtain ⟨i, hi⟩ := List.mem_iff_getElem?.1 hd
      obtain ⟨ok, k1, k2⟩ := g1.ch.at i d hi
      obtain ⟨x, hx, e⟩ := List.mem_map.1 hm
      cases e
      have := ok.key _ (List.mem_map_of_mem hx)
      omega
    · exact allR_pre dsF M.next M g1.ch hw.2
  · intro H hs hf
    rw [haps, hs.next]
    rw [g3] at hf
    exact g5 H hs.get hf

theorem resultsA_sub {M H : AHeap} (hs : Sub M H) {fn : Func} {T : List AV} {v : AV} (h : resultsA P E M fn T = some v) : resultsA P E H fn T = some v := by
  unfold resultsA at h ⊢
  simp only [Option.bind_eq_bind, Option.bind_eq_some_iff] at h ⊢
  obtain ⟨vs, hvs, h⟩ := h
  refine ⟨vs, ?_, h⟩
  revert hvs
  generalize fn.results.toList = l
  clear h
  intro hvs
  induction l generalizing vs with
  | nil => exact hvs
  | cons x l ih =>
    simp only [List.mapM_cons, Option.bind_eq_bind, Option.bind_eq_some_iff] at hvs ⊢
    obtain ⟨a, ha, as, has, hvs⟩ := hvs
    refine ⟨a, ?_, as, ih _ has, hvs⟩
    cases x with
    | tmp t => exact ha
    | cell a t =>
      simp only at ha ⊢
      split at ha
      · rename_i o i hh
        exact loadVarA_sub hs ha
      · cases ha

theorem codeA_trs (hc : CallTrs call) : ∀ (n : Nat) (c : Code) (T : List AV) (M : AHeap) (ex : AExit) (T' : List AV) (M' : AHeap), Wf M → codeA P E call n c T M = some (ex, T', M') →
    ∃ ts, M' = aps ts M ∧ Tame M ts ∧ Wf M' ∧ ∀ H, Sub M H → Free H M.next M'.next → codeA P E call n c T H = some (ex, T', aps ts H)
  | 0, c, T, M, ex, T', M', hw, h => by simp [codeA] at h
  | n + 1, c, T, M, ex, T', M', hw, h => by
    unfold codeA at h
    split at h
    case h_1 => cases h; exact ⟨[], rfl, Tame.nil _, hw, fun H _ _ => by simp only [codeA]; rfl⟩
    case h_2 => cases h; exact ⟨[], rfl, Tame.nil _, hw, fun H _ _ => by simp only [codeA]; rfl⟩
    case h_3 => cases h; exact ⟨[], rfl, Tame.nil _, hw, fun H _ _ => by simp only [codeA]; rfl⟩
    case h_4 id => cases h; exact ⟨[], rfl, Tame.nil _, hw, fun H _ _ => by simp only [codeA]; rfl⟩
    case h_5 id ops =>
      simp only [Option.map_eq_some_iff] at h
      obtain ⟨⟨T1, H1⟩, h1, h⟩ := h
      cases h
      obtain ⟨ts, g1, g2, g3, g4⟩ := opsA_trs hc _ _ _ _ _ hw h1
      exact ⟨ts, g1, g2, g3, fun H hs hf => by simp only [codeA, g4 H hs hf, Option.map_some]⟩
    case h_6 id ops =>
      simp only [Option.map_eq_some_iff] at h
      obtain ⟨⟨T1, H1⟩, h1, h⟩ := h
      cases h
      obtain ⟨ts, g1, g2, g3, g4⟩ := drawA_trs hc hw h1
      exact ⟨ts, g1, g2, g3, fun H hs hf => by simp only [codeA, g4 H hs hf, Option.map_some]⟩
    case h_7 x y =>
      split at h
      · rename_i T1 M1 h1
        obtain ⟨ts, g1, g2, g3, g4⟩ := codeA_trs hc n _ _ _ _ _ _ hw h1
        obtain ⟨us, k1, k2, k3, k4⟩ := codeA_trs hc n _ _ _ _ _ _ g3 h
        subst g1
        have hn1 : M.next ≤ (aps ts M).next := g2.1
        have hn2 : (aps ts M).next ≤ (aps us (aps ts M)).next := k2.1
        subst k1
        refine ⟨ts ++ us, (aps_append ..).symm, g2.append k2, k3, fun H hs hf => ?_⟩
        have e1 := g4 H hs (hf.sub hw (Nat.le_refl _) hn2)
        have e2 := k4 (aps ts H) (hs.aps ts) (g2.free (Nat.le_refl _) (hf.sub hw hn1 (Nat.le_refl _)))
        simp only [codeA, e1, e2, aps_append]
      · rename_i hne
        obtain ⟨ts, g1, g2, g3, g4⟩ := codeA_trs hc n _ _ _ _ _ _ hw h
        refine ⟨ts, g1, g2, g3, fun H hs hf => ?_⟩
        have e1 := g4 H hs hf
        simp only [codeA, e1]
        cases ex with
        | normal => exact absurd h (hne _ _)
        | _ => rfl
    case h_8 c1 x y =>
      split at h
      · rename_i t ht
        obtain ⟨ts, g1, g2, g3, g4⟩ := codeA_trs hc n _ _ _ _ _ _ hw h
        exact ⟨ts, g1, g2, g3, fun H hs hf => by simp only [codeA, ht]; exact g4 H hs hf⟩
      · cases h
    case h_9 id x =>
      split at h
      · rename_i id' T1 M1 h1
        obtain ⟨ts, g1, g2, g3, g4⟩ := codeA_trs hc n _ _ _ _ _ _ hw h1
        split at h
        · rename_i hid
          cases h
          exact ⟨ts, g1, g2, g3, fun H hs hf => by simp only [codeA, g4 H hs hf, hid, if_true]⟩
        · rename_i hid
          cases h
          exact ⟨ts, g1, g2, g3, fun H hs hf => by simp only [codeA, g4 H hs hf, hid, if_false]⟩
      · rename_i hne
        obtain ⟨ts, g1, g2, g3, g4⟩ := codeA_trs hc n _ _ _ _ _ _ hw h
        refine ⟨ts, g1, g2, g3, fun H hs hf => ?_⟩
        simp only [codeA, g4 H hs hf]
        cases ex with
        | exit id' => exact absurd h (hne _ _ _)
        | _ => rfl
    case h_10 x =>
      split at h
      · rename_i T1 M1 h1
        obtain ⟨ts, g1, g2, g3, g4⟩ := codeA_trs hc n _ _ _ _ _ _ hw h1
        obtain ⟨us, k1, k2, k3, k4⟩ := codeA_trs hc n _ _ _ _ _ _ g3 h
        subst g1
        have hn1 : M.next ≤ (aps ts M).next := g2.1
        have hn2 : (aps ts M).next ≤ (aps us (aps ts M)).next := k2.1
        subst k1
        refine ⟨ts ++ us, (aps_append ..).symm, g2.append k2, k3, fun H hs hf => ?_⟩
        have e1 := g4 H hs (hf.sub hw (Nat.le_refl _) hn2)
        have e2 := k4 (aps ts H) (hs.aps ts) (g2.free (Nat.le_refl _) (hf.sub hw hn1 (Nat.le_refl _)))
        rw [codeA]
        simp only [e1, e2, aps_append]
      · rename_i hne
        obtain ⟨ts, g1, g2, g3, g4⟩ := codeA_trs hc n _ _ _ _ _ _ hw h
        refine ⟨ts, g1, g2, g3, fun H hs hf => ?_⟩
        have e1 := g4 H hs hf
        rw [codeA]
        simp only [e1]
        cases ex with
        | normal => exact absurd h (hne _ _)
        | _ => rfl
    case h_11 => cases h
end

theorem callFA_trs (P : Program) (E : Env) {ov : OvF} (hov : CallTrs (ovCall ov)) : ∀ n, CallTrs (callFA P E ov n)
  | 0 => fun f args M v M' hw h => by simp [callFA] at h
  | n + 1 => fun f args M v M' hw h => by
    have ih := callFA_trs P E hov n
    unfold callFA at h
    split at h
    · rename_i g hg
      obtain ⟨ts, g1, g2, g3, g4⟩ := hov f args M v M' hw (by unfold ovCall; rw [hg]; exact h)
      refine ⟨ts, g1, g2, g3, fun H hs hf => ?_⟩
      have := g4 H hs hf
      unfold ovCall at this
      rw [hg] at this
      simp only [callFA, hg]
      exact this
    rename_i hg
    split at h
    · rename_i fn hfn
      split at h
      · rename_i c hb
        split at h
        · rename_i T M1 hcd
          simp only [Option.map_eq_some_iff] at h
          obtain ⟨u, hr, h⟩ := h
          cases h
          obtain ⟨ts, g1, g2, g3, g4⟩ := codeA_trs ih n _ _ _ _ _ _ hw hcd
          refine ⟨ts, g1, g2, g3, fun H hs hf => ?_⟩
          have hr' := resultsA_sub (H := aps ts H) (by rw [g1]; exact hs.aps ts) hr
          simp only [callFA, hg, hfn, hb, g4 H hs hf, hr', Option.map_some]
        · rename_i T M1 hcd
          simp only [Option.map_eq_some_iff] at h
          obtain ⟨u, hr, h⟩ := h
          cases h
          obtain ⟨ts, g1, g2, g3, g4⟩ := codeA_trs ih n _ _ _ _ _ _ hw hcd
          refine ⟨ts, g1, g2, g3, fun H hs hf => ?_⟩
          have hr' := resultsA_sub (H := aps ts H) (by rw [g1]; exact hs.aps ts) hr
          simp only [callFA, hg, hfn, hb, g4 H hs hf, hr', Option.map_some]
        · cases h
      · cases h
    · cases h
end Go.Am
