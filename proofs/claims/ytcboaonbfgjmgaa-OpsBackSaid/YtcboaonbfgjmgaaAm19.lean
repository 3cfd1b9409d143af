/-
  The abstract machine over a heap with more in it: the same answers, the same turns.
-/
import Derived.Test.YtcboaonbfgjmgaaAm16
namespace Go.Am

/-- A turn of a heap. -/
inductive Tr where
  | put (k : Nat) (o : Option AObj) (lg : Bool)
  | next (n : Nat)
def Tr.ap : Tr → AHeap → AHeap
  | .put k o lg, H => { H with objs := H.objs.set k o, log := if lg then k :: H.log else H.log }
  | .next n, H => { H with next := n }
def aps : List Tr → AHeap → AHeap
  | [], H => H
  | t :: ts, H => aps ts (t.ap H)
theorem aps_append : ∀ (a b : List Tr) (H : AHeap), aps (a ++ b) H = aps b (aps a H)
  | [], _, _ => rfl
  | t :: a, b, H => aps_append a b (t.ap H)

/-- A heap that holds what another holds. -/
structure Sub (M H : AHeap) : Prop where
  get : ∀ k o, M.get k = some o → H.get k = some o
  next : H.next = M.next
  log : H.log = M.log
theorem Sub.refl (H : AHeap) : Sub H H := ⟨fun _ _ h => h, rfl, rfl⟩
theorem Sub.ap {M H : AHeap} (h : Sub M H) (t : Tr) : Sub (t.ap M) (t.ap H) := by
  cases t with
  | put k o lg =>
    refine ⟨fun j x hx => ?_, h.next, by simp only [Tr.ap, h.log]⟩
    simp only [Tr.ap, AHeap.get, Trie.get_set] at hx ⊢
    split
    · rename_i e; rwa [if_pos e] at hx
    · rename_i e; rw [if_neg e] at hx; exact h.get j x hx
  | next n => exact ⟨h.get, rfl, h.log⟩
theorem Sub.aps {M H : AHeap} : ∀ (ts : List Tr), Sub M H → Sub (aps ts M) (aps ts H)
  | [], h => h
  | t :: ts, h => Sub.aps ts (h.ap t)

/-- Turns that keep within what is there and what is new. -/
def Tame (M : AHeap) (ts : List Tr) : Prop := M.next ≤ (aps ts M).next ∧ ∀ k o lg, Tr.put k o lg ∈ ts → (lg = false → M.next ≤ k) ∧ k < (aps ts M).next

def Wf (M : AHeap) : Prop := (∀ k, M.next ≤ k → M.get k = none) ∧ ∀ k o, M.get k = some o → ∀ p ∈ preOf o, p < M.next

/-- An answer with turns, over each heap that holds more. -/
def Trs (f : AHeap → Option (AV × AHeap)) (M : AHeap) : Prop := ∀ v M', f M = some (v, M') → ∃ ts, M' = aps ts M ∧ Tame M ts ∧ Wf M' ∧ ∀ H, Sub M H → f H = some (v, aps ts H)

theorem Tame.nil (M : AHeap) : Tame M [] := ⟨Nat.le_refl _, by simp⟩

section
variable {E : Env} {P : Program} {M H : AHeap}

theorem cellsOf_sub (h : Sub M H) {o : Id} {cs : List AV} (e : cellsOf E M o = some cs) : cellsOf E H o = some cs := by
  cases o with
  | old b => exact e
  | new k =>
    simp only [cellsOf] at e ⊢
    split at e
    · rename_i cs' wr pre hk; rw [h.get _ _ hk]; exact e
    · cases e
theorem loadCell_sub (h : Sub M H) {o : Id} {i : Nat} {a : AV} (e : loadCell E M o i = some a) : loadCell E H o i = some a := by
  unfold loadCell at e ⊢
  split at e
  · rename_i cs hc; rw [cellsOf_sub h hc]; exact e
  · cases e
theorem loadRange_sub (h : Sub M H) {o : Id} {i n : Nat} {a : List AV} (e : loadRange E M o i n = some a) : loadRange E H o i n = some a := by
  unfold loadRange at e ⊢
  split at e
  · rename_i cs hc; rw [cellsOf_sub h hc]; exact e
  · cases e
theorem rangeOr_sub (h : Sub M H) {o : Id} {i n : Nat} {a : List AV} (e : rangeOr E M o i n = some a) : rangeOr E H o i n = some a := by
  unfold rangeOr at e ⊢
  split at e
  · rename_i h0; rw [if_pos h0]; exact e
  · rename_i h0; rw [if_neg h0]; exact loadRange_sub h e
theorem loadVarA_sub (h : Sub M H) {t : TypeId} {o : Id} {i : Nat} {a : AV} (e : loadVarA P E M t o i = some a) : loadVarA P E H t o i = some a := by
  unfold loadVarA at e ⊢
  simp only [Option.bind_eq_bind, Option.bind_eq_some_iff] at e ⊢
  obtain ⟨g, hg, e⟩ := e
  refine ⟨g, hg, ?_⟩
  cases g with
  | true =>
    simp only [if_true, Option.bind_eq_some_iff] at e ⊢
    obtain ⟨n, hn, as, has, e⟩ := e
    exact ⟨n, hn, as, loadRange_sub h has, e⟩
  | false =>
    simp only [Bool.false_eq_true, if_false] at e ⊢
    exact loadCell_sub h e
theorem firstA_sub (h : Sub M H) {size n : Nat} {x : AV} {r : List AV} (e : firstA E M size n x = some r) : firstA E H size n x = some r := by
  unfold firstA at e ⊢
  split at e
  · exact e
  · exact rangeOr_sub h e
  · exact e
  · cases e
theorem entriesA_sub (h : Sub M H) {x : AV} {r : List (AV × AV × Nat)} (e : entriesA M x = some r) : entriesA H x = some r := by
  unfold entriesA at e ⊢
  split at e
  · exact e
  · split at e
    · rename_i es c hk; rw [h.get _ _ hk]; exact e
    · cases e
  · cases e
theorem placeGet_sub (h : Sub M H) {t : TypeId} {x : APlace} {a : AV} (e : x.get P E M t = some a) : x.get P E H t = some a := by
  cases x with
  | val v => exact e
  | var o i => exact loadVarA_sub h e
theorem followA_sub (h : Sub M H) : ∀ {path : List FieldStep} {t : TypeId} {x : APlace} {r : TypeId × APlace}, followA P E M path t x = some r → followA P E H path t x = some r
  | [], t, x, r, e => e
  | s :: rest, t, x, r, e => by
    simp only [followA, Option.bind_eq_bind, Option.bind_eq_some_iff] at e ⊢
    obtain ⟨fd, hfd, e⟩ := e
    refine ⟨fd, hfd, ?_⟩
    split at e
    · rename_i hc
      rw [if_pos hc]
      split at e
      · rename_i hd
        rw [if_pos hd]
        simp only [Option.bind_eq_some_iff] at e ⊢
        obtain ⟨a, ha, e⟩ := e
        refine ⟨a, placeGet_sub h ha, ?_⟩
        split at e
        · exact followA_sub h e
        · cases e
      · rename_i hd
        rw [if_neg hd]
        split at e
        · exact followA_sub h e
        · simp only [Option.bind_eq_some_iff] at e ⊢
          obtain ⟨y, hy, e⟩ := e
          exact ⟨y, hy, followA_sub h e⟩
        · cases e
    · cases e
theorem methodA_sub (h : Sub M H) {t : TypeId} {v : AV} {name : String} {r : FuncId × AV} (e : methodA P E M t v name = some r) : methodA P E H t v name = some r := by
  unfold methodA at e ⊢
  simp only [Option.bind_eq_bind, Option.bind_eq_some_iff] at e ⊢
  obtain ⟨info, hi, m, hm, ⟨xt, x⟩, hfo, ⟨g, pr⟩, hfn, e⟩ := e
  refine ⟨info, hi, m, hm, ⟨xt, x⟩, followA_sub h hfo, ⟨g, pr⟩, hfn, ?_⟩
  simp only at e ⊢
  split at e
  · simp only [Option.map_eq_some_iff] at e ⊢
    obtain ⟨y, hy, e⟩ := e
    exact ⟨y, placeGet_sub h hy, e⟩
  · cases e
  · exact e
  · cases e
  · simp only [Option.map_eq_some_iff] at e ⊢
    obtain ⟨y, hy, e⟩ := e
    exact ⟨y, placeGet_sub h hy, e⟩
  · cases e

theorem set_tr (H : AHeap) (k : Nat) (o : AObj) : H.set k o = aps [.put k (some o) true] H := rfl
theorem new_tr (H : AHeap) (o : AObj) : H.new o = aps [.put H.next (some o) false, .next (H.next + 1)] H := rfl
theorem killAll_tr : ∀ (ks : List Nat) (H : AHeap), H.killAll ks = aps (ks.map fun k => .put k none true) H
  | [], _ => rfl
  | k :: ks, H => killAll_tr ks (H.kill k)

theorem Wf.lt (h : Wf M) {k : Nat} {o : AObj} (e : M.get k = some o) : k < M.next := by
  rcases Nat.lt_or_ge k M.next with h' | h'
  · exact h'
  · rw [h.1 k h'] at e; cases e

/-- A store, or a map's turn. -/
theorem trs_set (hw : Wf M) {k : Nat} {o o' : AObj} {pre : List Nat} (hk : M.get k = some o) (hp : ∀ p ∈ pre, p < M.next) (hp' : ∀ p ∈ preOf o', p < M.next) :
    ∃ ts, (∀ H : AHeap, (H.killAll pre).set k o' = aps ts H) ∧ Tame M ts ∧ Wf ((M.killAll pre).set k o') := by
  refine ⟨(pre.map fun p => Tr.put p none true) ++ [.put k (some o') true], fun H => by rw [aps_append, ← killAll_tr]; rfl, ?_, ?_⟩
  · have hn : (aps ((pre.map fun p => Tr.put p none true) ++ [.put k (some o') true]) M).next = M.next := by
      rw [aps_append, ← killAll_tr]; exact AHeap.next_killAll pre M
    refine ⟨by omega, fun j x lg hm => ?_⟩
    rw [hn]
    simp only [List.mem_append, List.mem_map, List.mem_singleton, Tr.put.injEq] at hm
    rcases hm with ⟨p, hpp, rfl, _, rfl⟩ | ⟨rfl, _, rfl⟩
    · exact ⟨(fun e => by cases e), hp _ hpp⟩
    · exact ⟨(fun e => by cases e), hw.lt hk⟩
  · refine ⟨fun j hj => ?_, fun j x hx p hpp => ?_⟩
    · simp only [AHeap.next_set, AHeap.next_killAll] at hj
      rw [AHeap.get_set, AHeap.get_killAll, if_neg (by have := hw.lt hk; omega)]
      split
      · rfl
      · exact hw.1 j hj
    · simp only [AHeap.next_set, AHeap.next_killAll]
      rw [AHeap.get_set, AHeap.get_killAll] at hx
      split at hx
      · cases hx; exact hp' p hpp
      · split at hx
        · cases hx
        · exact hw.2 j x hx p hpp

theorem trs_new (hw : Wf M) {o : AObj} (hp : ∀ p ∈ preOf o, p < M.next) : ∃ ts, (∀ H, Sub M H → H.new o = aps ts H) ∧ Tame M ts ∧ Wf (M.new o) := by
  refine ⟨[.put M.next (some o) false, .next (M.next + 1)], fun H h => by rw [new_tr, h.next], ⟨by simp [aps, Tr.ap], fun j x lg hm => ?_⟩, ?_⟩
  · simp only [List.mem_cons, Tr.put.injEq, List.not_mem_nil, or_false, reduceCtorEq] at hm
    obtain ⟨rfl, _, rfl⟩ := hm
    exact ⟨fun _ => Nat.le_refl _, by simp [aps, Tr.ap]⟩
  · refine ⟨fun j hj => ?_, fun j x hx p hpp => ?_⟩
    · simp only [AHeap.next_new] at hj
      rw [AHeap.get_new, if_neg (by omega)]
      exact hw.1 j (by omega)
    · simp only [AHeap.next_new]
      rw [AHeap.get_new] at hx
      split at hx
      · cases hx; have := hp p hpp; omega
      · have := hw.2 j x hx p hpp; omega
theorem Tame.append {ts us : List Tr} (h : Tame M ts) (h' : Tame (aps ts M) us) : Tame M (ts ++ us) := by
  refine ⟨by rw [aps_append]; exact Nat.le_trans h.1 h'.1, fun k o lg hm => ?_⟩
  rw [aps_append]
  rcases List.mem_append.1 hm with hm | hm
  · obtain ⟨a, b⟩ := h.2 k o lg hm
    exact ⟨a, Nat.lt_of_lt_of_le b h'.1⟩
  · obtain ⟨a, b⟩ := h'.2 k o lg hm
    exact ⟨fun e => Nat.le_trans h.1 (a e), b⟩

/-- An operation's answer, over each heap that holds more. -/
def OpTrs (P : Program) (E : Env) (T : List AV) (o : Oper) (M : AHeap) (r : ARes) : Prop :=
  match r with
  | .val v M' => ∃ ts, M' = aps ts M ∧ Tame M ts ∧ Wf M' ∧ ∀ H, Sub M H → opA P E T H o = some (.val v (aps ts H))
  | .call f args M' => M' = M ∧ ∀ H, Sub M H → opA P E T H o = some (.call f args H)

theorem storeRange_trs (hw : Wf M) {o : Id} {i : Nat} {vs : List AV} {M' : AHeap} (h : storeRange M o i vs = some M') :
    ∃ ts, M' = aps ts M ∧ Tame M ts ∧ Wf M' ∧ ∀ H, Sub M H → storeRange H o i vs = some (aps ts H) := by
  unfold storeRange at h
  split at h
  · cases h; exact ⟨[], rfl, Tame.nil _, hw, fun H _ => rfl⟩
  · rename_i hne
    split at h
    · cases h
    · rename_i k
      split at h
      · rename_i cs pre hk
        split at h
        · rename_i hc
          cases h
          obtain ⟨ts, g1, g2, g3⟩ := trs_set hw (pre := pre) (o' := .cells (setMany cs i vs) true []) hk (hw.2 k _ hk) (by simp [preOf])
          refine ⟨ts, g1 M, g2, g3, fun H hs => ?_⟩
          unfold storeRange
          split
          · exact absurd rfl hne
          · simp only [hs.get _ _ hk]
            rw [if_pos hc, g1 H]
        · cases h
      · cases h

theorem growA_trs (hw : Wf M) {size bytes n : Nat} {s a : AV} {news : List AV} {M' : AHeap} (h : growA E M size bytes s n news = some (a, M')) :
    ∃ ts, M' = aps ts M ∧ Tame M ts ∧ Wf M' ∧ ∀ H, Sub M H → growA E H size bytes s n news = some (a, aps ts H) := by
  unfold growA at h
  split at h
  · rename_i hl
    split at h
    · split at h
      · rename_i hn
        cases h
        exact ⟨[], rfl, Tame.nil _, hw, fun H _ => by unfold growA; rw [if_pos hl]; simp only; rw [if_pos hn]; rfl⟩
      · rename_i hn
        split at h
        · rename_i hb
          cases h
          obtain ⟨ts, g1, g2, g3⟩ := trs_new hw (o := .cells news true []) (by simp [preOf])
          refine ⟨ts, g1 M (Sub.refl M), g2, g3, fun H hs => ?_⟩
          unfold growA
          rw [if_pos hl]; simp only; rw [if_neg hn, if_pos hb, hs.next, newCells, g1 H hs]
        · cases h
    · rename_i o i len cap ex sz
      split at h
      · rename_i hn
        cases h
        exact ⟨[], rfl, Tame.nil _, hw, fun H _ => by unfold growA; rw [if_pos hl]; simp only; rw [if_pos hn]; rfl⟩
      · rename_i hn
        split at h
        · rename_i hb
          split at h
          · rename_i hex
            split at h
            · rename_i olds ho
              cases h
              obtain ⟨ts, g1, g2, g3⟩ := trs_new hw (o := .cells (olds ++ news) true []) (by simp [preOf])
              refine ⟨ts, g1 M (Sub.refl M), g2, g3, fun H hs => ?_⟩
              unfold growA
              rw [if_pos hl]; simp only; rw [if_neg hn, if_pos hb, if_pos hex, loadRange_sub hs ho]
              simp only
              rw [hs.next, newCells, g1 H hs]
            · cases h
          · rename_i hex
            split at h
            · cases h
            · rename_i k
              split at h
              · rename_i cs pre hk
                have hkn := hw.lt hk
                have hpl : ∀ p ∈ pre, p < M.next := hw.2 k _ hk
                split at h
                · rename_i hc
                  split at h
                  · rename_i hlt
                    cases h
                    obtain ⟨ts, g1, g2, g3⟩ := trs_set hw (o' := .cells (cs.take (i + len * size)) false []) hk hpl (by simp [preOf])
                    have hnx : ((M.killAll pre).set k (.cells (cs.take (i + len * size)) false [])).next = M.next := by simp
                    obtain ⟨us, k1, k2, k3⟩ := trs_new g3 (o := .cells ((cs.take (i + len * size)).drop i ++ news) true [k]) (by simp [preOf]; exact hkn)
                    refine ⟨ts ++ us, by rw [aps_append, ← g1, ← k1 _ (Sub.refl _)], g2.append (by rw [← g1]; exact k2), k3, fun H hs => ?_⟩
                    unfold growA
                    rw [if_pos hl]; simp only; rw [if_neg hn, if_pos hb, if_neg hex]
                    simp only [hs.get _ _ hk]
                    rw [if_pos hc, if_pos hlt, hs.next, g1 H, k1 _ (by rw [g1 M]; exact hs.aps ts), aps_append]
                  · rename_i hlt
                    cases h
                    obtain ⟨ts, g1, g2, g3⟩ := trs_set hw (o' := .cells cs false pre) (pre := []) hk (by simp) (by simpa [preOf] using hpl)
                    obtain ⟨us, k1, k2, k3⟩ := trs_new g3 (o := .cells (cs.drop i ++ news) true (k :: pre)) (by
                      intro p hp
                      simp only [preOf, List.mem_cons] at hp
                      rcases hp with rfl | hp
                      · exact hkn
                      · exact hpl p hp)
                    refine ⟨ts ++ us, by rw [aps_append, ← g1, ← k1 _ (Sub.refl _)]; rfl, g2.append (by rw [← g1]; exact k2), k3, fun H hs => ?_⟩
                    unfold growA
                    rw [if_pos hl]; simp only; rw [if_neg hn, if_pos hb, if_neg hex]
                    simp only [hs.get _ _ hk]
                    rw [if_pos hc, if_neg hlt, hs.next, aps_append, ← g1, ← k1 _ (by rw [g1 M, g1 H]; exact hs.aps ts)]
                    rfl
                · cases h
              · cases h
        · cases h
    · cases h
  · cases h

theorem newCells_trs (hw : Wf M) (cs : List AV) : ∃ ts, (∀ H, Sub M H → newCells H cs = aps ts H) ∧ Tame M ts ∧ Wf (newCells M cs) :=
  trs_new hw (o := .cells cs true []) (by simp [preOf])

theorem appendA_trs (hw : Wf M) {sT xT : TypeId} {s x a : AV} {M' : AHeap} (h : appendA P E M sT s xT x = some (a, M')) :
    ∃ ts, M' = aps ts M ∧ Tame M ts ∧ Wf M' ∧ ∀ H, Sub M H → appendA P E H sT s xT x = some (a, aps ts H) := by
  unfold appendA at h
  simp only [Option.bind_eq_bind, Option.bind_eq_some_iff] at h
  obtain ⟨e, he, size, hs, bytes, hb, z, hz, h⟩ := h
  split at h
  · rename_i hzs
    split at h
    · rename_i k hu
      simp only [Option.bind_eq_some_iff] at h
      obtain ⟨l, hl, h⟩ := h
      split at h
      · rename_i hc
        obtain ⟨ts, g1, g2, g3, g4⟩ := growA_trs hw h
        refine ⟨ts, g1, g2, g3, fun H hsub => ?_⟩
        unfold appendA
        simp only [Option.bind_eq_bind, he, hs, hb, hz, Option.bind_some, hzs, if_true, hu, hl]
        rw [if_pos hc, g4 H hsub]
      · cases h
    · rename_i d hd hu
      simp only [Option.bind_eq_some_iff] at h
      obtain ⟨n, hn, nw, hnw, h⟩ := h
      obtain ⟨ts, g1, g2, g3, g4⟩ := growA_trs hw h
      refine ⟨ts, g1, g2, g3, fun H hsub => ?_⟩
      unfold appendA
      simp only [Option.bind_eq_bind, he, hs, hb, hz, Option.bind_some, hzs, if_true, hu]
      have : (match some d with
        | some (.int _) => (do
            let l ← intOfA x
            if IntKind.i64.wrap l = l ∧ 0 ≤ l ∧ l * bytes ≤ 2 ^ 47 then growA E H size bytes s l.toNat (rep z.cells l.toNat) else none : Option (AV × AHeap))
        | some _ => (do
            let n ← lenOfA x
            let news ← firstA E H size n x
            growA E H size bytes s n news)
        | none => none) = some (a, aps ts H) := by
        cases d <;> first | exact (hd _ rfl).elim | (simp only [Option.bind_eq_bind, hn, Option.bind_some, firstA_sub hsub hnw]; exact g4 H hsub)
      simpa only [Option.bind_eq_bind] using this
    · cases h
  · cases h

theorem copyA_trs (hw : Wf M) {dT : TypeId} {d x a : AV} {M' : AHeap} (h : copyA P E M dT d x = some (a, M')) :
    ∃ ts, M' = aps ts M ∧ Tame M ts ∧ Wf M' ∧ ∀ H, Sub M H → copyA P E H dT d x = some (a, aps ts H) := by
  unfold copyA at h
  simp only [Option.bind_eq_bind, Option.bind_eq_some_iff] at h
  obtain ⟨e, he, size, hs, k, hk, h⟩ := h
  split at h
  · cases h
    exact ⟨[], rfl, Tame.nil _, hw, fun H _ => by unfold copyA; simp only [Option.bind_eq_bind, he, hs, hk, Option.bind_some]; rfl⟩
  · rename_i o i len cap ex sz
    simp only [Option.bind_eq_some_iff] at h
    obtain ⟨nw, hnw, H1, hst, h⟩ := h
    cases h
    obtain ⟨ts, g1, g2, g3, g4⟩ := storeRange_trs hw hst
    refine ⟨ts, g1, g2, g3, fun H hsub => ?_⟩
    unfold copyA
    simp only [Option.bind_eq_bind, he, hs, hk, Option.bind_some, firstA_sub hsub hnw, g4 H hsub]
  · cases h

theorem convA_trs (hw : Wf M) {src dst : TypeId} {x a : AV} {M' : AHeap} (h : convA P E M src dst x = some (a, M')) :
    ∃ ts, M' = aps ts M ∧ Tame M ts ∧ Wf M' ∧ ∀ H, Sub M H → convA P E H src dst x = some (a, aps ts H) := by
  unfold convA at h
  split at h
  · rename_i h1 h2
    cases h
    refine ⟨[], rfl, Tame.nil _, hw, fun H _ => ?_⟩
    unfold convA; rw [h1, h2]; rfl
  · rename_i h1 h2
    cases h
    refine ⟨[], rfl, Tame.nil _, hw, fun H _ => ?_⟩
    unfold convA; rw [h1, h2]; rfl
  · rename_i d e s h1 h2
    split at h
    · rename_i he
      split at h
      · rename_i hl
        cases h
        obtain ⟨ts, g1, g2, g3⟩ := newCells_trs hw (s.map fun b => AV.int .u8 b.toNat)
        refine ⟨ts, g1 M (Sub.refl M), g2, g3, fun H hs => ?_⟩
        unfold convA; rw [h1, h2]; simp only [he, hl, if_true, hs.next, g1 H hs]
      · cases h
    · cases h
  · rename_i d e k i len cap ex sz h1 h2
    split at h
    · rename_i he
      split at h
      · rename_i hc
        cases h
        refine ⟨[], rfl, Tame.nil _, hw, fun H hs => ?_⟩
        obtain ⟨cs, hcs⟩ := Option.isSome_iff_exists.1 hc.2.2
        have hc' : src = dst ∧ len ≠ 0 ∧ (cellsOf E H (.new k)).isSome := ⟨hc.1, hc.2.1, by rw [cellsOf_sub hs hcs]; rfl⟩
        unfold convA; rw [h1, h2]; simp only [he]
        rw [if_pos hc']; rfl
      · cases h
    · cases h
  · rename_i e h1 h2 hno
    split at h
    · rename_i he
      split at h
      · cases h
        refine ⟨[], rfl, Tame.nil _, hw, fun H _ => ?_⟩
        unfold convA; rw [h1, h2]; simp only [he]; rfl
      · rename_i o i len cap ex sz _
        split at h
        · rename_i cs hcs
          simp only [Option.map_eq_some_iff] at h
          obtain ⟨bs, hbs, h⟩ := h
          cases h
          refine ⟨[], rfl, Tame.nil _, hw, fun H hs => ?_⟩
          unfold convA; rw [h1, h2]; simp only [he, rangeOr_sub hs hcs, hbs]; rfl
        · cases h
      · cases h
    · cases h
  · cases h

theorem map_trs (hw : Wf M) {k : Nat} {es es' : List (AV × AV × Nat)} {clock clock' : Nat} (hk : M.get k = some (.map es clock)) :
    ∃ ts, (∀ H : AHeap, H.set k (.map es' clock') = aps ts H) ∧ Tame M ts ∧ Wf (M.set k (.map es' clock')) := by
  obtain ⟨ts, g1, g2, g3⟩ := trs_set hw (pre := []) (o' := .map es' clock') hk (by simp) (by simp [preOf])
  exact ⟨ts, g1, g2, g3⟩

theorem updateA_trs (hw : Wf M) {t : TypeId} {m key v : AV} {M' : AHeap} (h : updateA P M t m key v = some M') :
    ∃ ts, M' = aps ts M ∧ Tame M ts ∧ Wf M' ∧ ∀ H, Sub M H → updateA P H t m key v = some (aps ts H) := by
  unfold updateA at h
  split at h
  · rename_i kt e k hu
    split at h
    · rename_i hf
      split at h
      · rename_i es clock hk
        split at h
        · rename_i hfa
          cases h
          obtain ⟨ts, g1, g2, g3⟩ := map_trs hw hk
          refine ⟨ts, g1 M, g2, g3, fun H hs => ?_⟩
          unfold updateA; rw [hu]; simp only [hf, if_true, hs.get _ _ hk, hfa, g1 H]
        · rename_i hfa
          cases h
          obtain ⟨ts, g1, g2, g3⟩ := map_trs hw hk
          refine ⟨ts, g1 M, g2, g3, fun H hs => ?_⟩
          unfold updateA; rw [hu]; simp only [hf, if_true, hs.get _ _ hk, hfa, g1 H]
        · cases h
      · cases h
    · cases h
  · cases h

theorem entryA_trs (hw : Wf M) {t : TypeId} {m key a : AV} {M' : AHeap} (h : entryA P M t m key = some (a, M')) :
    ∃ ts, M' = aps ts M ∧ Tame M ts ∧ Wf M' ∧ ∀ H, Sub M H → entryA P H t m key = some (a, aps ts H) := by
  unfold entryA at h
  split at h
  · rename_i kt e k hu
    split at h
    · rename_i hf
      split at h
      · rename_i es clock hk
        split at h
        · rename_i hfa
          cases h
          obtain ⟨ts, g1, g2, g3⟩ := map_trs hw hk
          refine ⟨ts, g1 M, g2, g3, fun H hs => ?_⟩
          unfold entryA; rw [hu]; simp only [hf, if_true, hs.get _ _ hk, hfa, g1 H]
        · rename_i hfa
          split at h
          · rename_i z hz
            cases h
            obtain ⟨ts, g1, g2, g3⟩ := map_trs hw hk
            refine ⟨ts, g1 M, g2, g3, fun H hs => ?_⟩
            unfold entryA; rw [hu]; simp only [hf, if_true, hs.get _ _ hk, hfa, hz, g1 H]
          · cases h
        · cases h
      · cases h
    · cases h
  · cases h

theorem entryStoreA_trs (hw : Wf M) {m stamp v : AV} {M' : AHeap} (h : entryStoreA M m stamp v = some M') :
    ∃ ts, M' = aps ts M ∧ Tame M ts ∧ Wf M' ∧ ∀ H, Sub M H → entryStoreA H m stamp v = some (aps ts H) := by
  unfold entryStoreA at h
  split at h
  · rename_i k ik n
    split at h
    · rename_i es clock hk
      split at h
      · rename_i i hi
        split at h
        · rename_i ent hent
          cases h
          obtain ⟨ts, g1, g2, g3⟩ := map_trs hw hk
          refine ⟨ts, g1 M, g2, g3, fun H hs => ?_⟩
          unfold entryStoreA; simp only [hs.get _ _ hk, hi, hent, g1 H]
        · cases h
      · cases h
    · cases h
  · cases h

theorem lookupA_sub (h : Sub M H) {t : TypeId} {x ix : AV} {ok : Bool} {a : AV} (e : lookupA P M t x ix ok = some a) : lookupA P H t x ix ok = some a := by
  unfold lookupA at e ⊢
  split at e
  · split at e
    · rename_i hf
      rw [if_pos hf]
      simp only [Option.bind_eq_some_iff] at e ⊢
      obtain ⟨es, hes, e⟩ := e
      exact ⟨es, entriesA_sub h hes, e⟩
    · cases e
  · cases e

theorem mapLenA_sub (h : Sub M H) {t : TypeId} {x : AV} {n : Nat} (e : mapLenA P M t x = some n) : mapLenA P H t x = some n := by
  unfold mapLenA at e ⊢
  split at e
  · exact e
  · split at e
    · rename_i es c hk; simp only [h.get _ _ hk]; exact e
    · cases e
  · cases e

theorem sliceA_sub (h : Sub M H) {t : TypeId} {x : AV} {lo hi mx : Option AV} {a : AV} (e : sliceA P M t x lo hi mx = some a) : sliceA P H t x lo hi mx = some a := by
  unfold sliceA at e ⊢
  split at e
  · exact e
  · exact e
  · exact e
  · simp only [Option.bind_eq_bind, Option.bind_eq_some_iff] at e ⊢
    obtain ⟨size, hs, r, hr, e⟩ := e
    refine ⟨size, hs, r, hr, ?_⟩
    split at e
    · rename_i cs wr pre hk; rw [h.get _ _ hk]; exact e
    · cases e
  · cases e

theorem buildSliceA_trs (hw : Wf M) {t : TypeId} {len : Nat} {ps : List (Nat × AV)} {a : AV} {M' : AHeap} (h : buildSliceA P M t len ps = some (a, M')) :
    ∃ ts, M' = aps ts M ∧ Tame M ts ∧ Wf M' ∧ ∀ H, Sub M H → buildSliceA P H t len ps = some (a, aps ts H) := by
  unfold buildSliceA at h
  simp only [Option.bind_eq_bind, Option.bind_eq_some_iff] at h
  obtain ⟨e, he, size, hs, h⟩ := h
  split at h
  · rename_i hn
    simp only [Option.bind_eq_some_iff] at h
    obtain ⟨z, hz, h⟩ := h
    split at h
    · rename_i hzs
      simp only [Option.bind_eq_some_iff] at h
      obtain ⟨cs, hcs, h⟩ := h
      cases h
      obtain ⟨ts, g1, g2, g3⟩ := newCells_trs hw cs
      refine ⟨ts, g1 M (Sub.refl M), g2, g3, fun H hsub => ?_⟩
      unfold buildSliceA
      simp only [Option.bind_eq_bind, he, hs, Option.bind_some, hn, if_true, hz, hzs, hcs, hsub.next, g1 H hsub]
    · cases h
  · cases h

theorem makeSliceA_trs (hw : Wf M) {t : TypeId} {len cap a : AV} {M' : AHeap} (h : makeSliceA P M t len cap = some (a, M')) :
    ∃ ts, M' = aps ts M ∧ Tame M ts ∧ Wf M' ∧ ∀ H, Sub M H → makeSliceA P H t len cap = some (a, aps ts H) := by
  unfold makeSliceA at h
  simp only [Option.bind_eq_bind, Option.bind_eq_some_iff] at h
  obtain ⟨e, he, size, hs, b, hb, l, hl, c, hc, z, hz, h⟩ := h
  split at h
  · rename_i hcond
    cases h
    obtain ⟨ts, g1, g2, g3⟩ := newCells_trs hw (rep z.cells c.toNat)
    refine ⟨ts, g1 M (Sub.refl M), g2, g3, fun H hsub => ?_⟩
    unfold makeSliceA
    simp only [Option.bind_eq_bind, he, hs, hb, hl, hc, hz, Option.bind_some]
    rw [if_pos hcond, hsub.next, g1 H hsub]
  · cases h
end
end Go.Am
