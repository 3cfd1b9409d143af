/-
  Texts Am19 Am20 Am21 Am22, as far as they are used.
-/
import Derived.Test.YtchnpgddpaonhaaUae
import Derived.LoopN
section
namespace Go.Am
/-- A turn of a heap. -/
inductive Tr where
  | put (k : Nat) (o : Option AObj) (lg : Bool)
  | next (n : Nat)
def Tr.ap : Tr → AHeap → AHeap
  | .put k o lg, H => { H with objs := H.objs.set k o, log := if lg then k :: H.log else H.log }
  | .next n, H => { H with next := n }
def aps : List Tr → AHeap → AHeap
  | [], H => H
  | t :: ts, H => aps ts (t.ap H)
theorem aps_append : ∀ (a b : List Tr) (H : AHeap), aps (a ++ b) H = aps b (aps a H)
  | [], _, _ => rfl
  | t :: a, b, H => aps_append a b (t.ap H)
/-- A heap that holds what another holds. -/
structure Sub (M H : AHeap) : Prop where
  get : ∀ k o, M.get k = some o → H.get k = some o
  next : H.next = M.next
  log : H.log = M.log
theorem Sub.refl (H : AHeap) : Sub H H := ⟨fun _ _ h => h, rfl, rfl⟩
theorem Sub.ap {M H : AHeap} (h : Sub M H) (t : Tr) : Sub (t.ap M) (t.ap H) := by
  cases t with
  | put k o lg =>
    refine ⟨fun j x hx => ?_, h.next, by simp only [Tr.ap, h.log]⟩
    simp only [Tr.ap, AHeap.get, Trie.get_set] at hx ⊢
    split
    · rename_i e; rwa [if_pos e] at hx
    · rename_i e; rw [if_neg e] at hx; exact h.get j x hx
  | next n => exact ⟨h.get, rfl, h.log⟩
theorem Sub.aps {M H : AHeap} : ∀ (ts : List Tr), Sub M H → Sub (aps ts M) (aps ts H)
  | [], h => h
  | t :: ts, h => Sub.aps ts (h.ap t)
/-- Turns that keep within what is there and what is new. -/
def Tame (M : AHeap) (ts : List Tr) : Prop := M.next ≤ (aps ts M).next ∧ ∀ k o lg, Tr.put k o lg ∈ ts → (lg = false → M.next ≤ k) ∧ k < (aps ts M).next
def Wf (M : AHeap) : Prop := (∀ k, M.next ≤ k → M.get k = none) ∧ ∀ k o, M.get k = some o → ∀ p ∈ preOf o, p < M.next
theorem Tame.nil (M : AHeap) : Tame M [] := ⟨Nat.le_refl _, by simp⟩
section
variable {E : Env} {P : Program} {M H : AHeap}
theorem cellsOf_sub (h : Sub M H) {o : Id} {cs : List AV} (e : cellsOf E M o = some cs) : cellsOf E H o = some cs := by
  cases o with
  | old b => exact e
  | new k =>
    simp only [cellsOf] at e ⊢
    split at e
    · rename_i cs' wr pre hk; rw [h.get _ _ hk]; exact e
    · cases e
theorem loadCell_sub (h : Sub M H) {o : Id} {i : Nat} {a : AV} (e : loadCell E M o i = some a) : loadCell E H o i = some a := by
  unfold loadCell at e ⊢
  split at e
  · rename_i cs hc; rw [cellsOf_sub h hc]; exact e
  · cases e
theorem loadRange_sub (h : Sub M H) {o : Id} {i n : Nat} {a : List AV} (e : loadRange E M o i n = some a) : loadRange E H o i n = some a := by
  unfold loadRange at e ⊢
  split at e
  · rename_i cs hc; rw [cellsOf_sub h hc]; exact e
  · cases e
theorem rangeOr_sub (h : Sub M H) {o : Id} {i n : Nat} {a : List AV} (e : rangeOr E M o i n = some a) : rangeOr E H o i n = some a := by
  unfold rangeOr at e ⊢
  split at e
  · rename_i h0; rw [if_pos h0]; exact e
  · rename_i h0; rw [if_neg h0]; exact loadRange_sub h e
theorem loadVarA_sub (h : Sub M H) {t : TypeId} {o : Id} {i : Nat} {a : AV} (e : loadVarA P E M t o i = some a) : loadVarA P E H t o i = some a := by
  unfold loadVarA at e ⊢
  simp only [Option.bind_eq_bind, Option.bind_eq_some_iff] at e ⊢
  obtain ⟨g, hg, e⟩ := e
  refine ⟨g, hg, ?_⟩
  cases g with
  | true =>
    simp only [if_true, Option.bind_eq_some_iff] at e ⊢
    obtain ⟨n, hn, as, has, e⟩ := e
    exact ⟨n, hn, as, loadRange_sub h has, e⟩
  | false =>
    simp only [Bool.false_eq_true, if_false] at e ⊢
    exact loadCell_sub h e
theorem firstA_sub (h : Sub M H) {size n : Nat} {x : AV} {r : List AV} (e : firstA E M size n x = some r) : firstA E H size n x = some r := by
  unfold firstA at e ⊢
  split at e
  · exact e
  · exact rangeOr_sub h e
  · exact e
  · cases e
theorem entriesA_sub (h : Sub M H) {x : AV} {r : List (AV × AV × Nat)} (e : entriesA M x = some r) : entriesA H x = some r := by
  unfold entriesA at e ⊢
  split at e
  · exact e
  · split at e
    · rename_i es c hk; rw [h.get _ _ hk]; exact e
    · cases e
  · cases e
theorem placeGet_sub (h : Sub M H) {t : TypeId} {x : APlace} {a : AV} (e : x.get P E M t = some a) : x.get P E H t = some a := by
  cases x with
  | val v => exact e
  | var o i => exact loadVarA_sub h e
theorem followA_sub (h : Sub M H) : ∀ {path : List FieldStep} {t : TypeId} {x : APlace} {r : TypeId × APlace}, followA P E M path t x = some r → followA P E H path t x = some r
  | [], t, x, r, e => e
  | s :: rest, t, x, r, e => by
    simp only [followA, Option.bind_eq_bind, Option.bind_eq_some_iff] at e ⊢
    obtain ⟨fd, hfd, e⟩ := e
    refine ⟨fd, hfd, ?_⟩
    split at e
    · rename_i hc
      rw [if_pos hc]
      split at e
      · rename_i hd
        rw [if_pos hd]
        simp only [Option.bind_eq_some_iff] at e ⊢
        obtain ⟨a, ha, e⟩ := e
        refine ⟨a, placeGet_sub h ha, ?_⟩
        split at e
        · exact followA_sub h e
        · cases e
      · rename_i hd
        rw [if_neg hd]
        split at e
        · exact followA_sub h e
        · simp only [Option.bind_eq_some_iff] at e ⊢
          obtain ⟨y, hy, e⟩ := e
          exact ⟨y, hy, followA_sub h e⟩
        · cases e
    · cases e
theorem methodA_sub (h : Sub M H) {t : TypeId} {v : AV} {name : String} {r : FuncId × AV} (e : methodA P E M t v name = some r) : methodA P E H t v name = some r := by
  unfold methodA at e ⊢
  simp only [Option.bind_eq_bind, Option.bind_eq_some_iff] at e ⊢
  obtain ⟨info, hi, m, hm, ⟨xt, x⟩, hfo, ⟨g, pr⟩, hfn, e⟩ := e
  refine ⟨info, hi, m, hm, ⟨xt, x⟩, followA_sub h hfo, ⟨g, pr⟩, hfn, ?_⟩
  simp only at e ⊢
  split at e
  · simp only [Option.map_eq_some_iff] at e ⊢
    obtain ⟨y, hy, e⟩ := e
    exact ⟨y, placeGet_sub h hy, e⟩
  · cases e
  · exact e
  · cases e
  · simp only [Option.map_eq_some_iff] at e ⊢
    obtain ⟨y, hy, e⟩ := e
    exact ⟨y, placeGet_sub h hy, e⟩
  · cases e
theorem new_tr (H : AHeap) (o : AObj) : H.new o = aps [.put H.next (some o) false, .next (H.next + 1)] H := rfl
theorem killAll_tr : ∀ (ks : List Nat) (H : AHeap), H.killAll ks = aps (ks.map fun k => .put k none true) H
  | [], _ => rfl
  | k :: ks, H => killAll_tr ks (H.kill k)
theorem Wf.lt (h : Wf M) {k : Nat} {o : AObj} (e : M.get k = some o) : k < M.next := by
  rcases Nat.lt_or_ge k M.next with h' | h'
  · exact h'
  · rw [h.1 k h'] at e; cases e
/-- A store, or a map's turn. -/
theorem trs_set (hw : Wf M) {k : Nat} {o o' : AObj} {pre : List Nat} (hk : M.get k = some o) (hp : ∀ p ∈ pre, p < M.next) (hp' : ∀ p ∈ preOf o', p < M.next) :
    ∃ ts, (∀ H : AHeap, (H.killAll pre).set k o' = aps ts H) ∧ Tame M ts ∧ Wf ((M.killAll pre).set k o') := by
  refine ⟨(pre.map fun p => Tr.put p none true) ++ [.put k (some o') true], fun H => by rw [aps_append, ← killAll_tr]; rfl, ?_, ?_⟩
  · have hn : (aps ((pre.map fun p => Tr.put p none true) ++ [.put k (some o') true]) M).next = M.next := by
      rw [aps_append, ← killAll_tr]; exact AHeap.next_killAll pre M
    refine ⟨by omega, fun j x lg hm => ?_⟩
    rw [hn]
    simp only [List.mem_append, List.mem_map, List.mem_singleton, Tr.put.injEq] at hm
    rcases hm with ⟨p, hpp, rfl, _, rfl⟩ | ⟨rfl, _, rfl⟩
    · exact ⟨(fun e => by cases e), hp _ hpp⟩
    · exact ⟨(fun e => by cases e), hw.lt hk⟩
  · refine ⟨fun j hj => ?_, fun j x hx p hpp => ?_⟩
    · simp only [AHeap.next_set, AHeap.next_killAll] at hj
      rw [AHeap.get_set, AHeap.get_killAll, if_neg (by have := hw.lt hk; omega)]
      split
      · rfl
      · exact hw.1 j hj
    · simp only [AHeap.next_set, AHeap.next_killAll]
      rw [AHeap.get_set, AHeap.get_killAll] at hx
      split at hx
      · cases hx; exact hp' p hpp
      · split at hx
        · cases hx
        · exact hw.2 j x hx p hpp
theorem trs_new (hw : Wf M) {o : AObj} (hp : ∀ p ∈ preOf o, p < M.next) : ∃ ts, (∀ H, Sub M H → H.new o = aps ts H) ∧ Tame M ts ∧ Wf (M.new o) := by
  refine ⟨[.put M.next (some o) false, .next (M.next + 1)], fun H h => by rw [new_tr, h.next], ⟨by simp [aps, Tr.ap], fun j x lg hm => ?_⟩, ?_⟩
  · simp only [List.mem_cons, Tr.put.injEq, List.not_mem_nil, or_false, reduceCtorEq] at hm
    obtain ⟨rfl, _, rfl⟩ := hm
    exact ⟨fun _ => Nat.le_refl _, by simp [aps, Tr.ap]⟩
  · refine ⟨fun j hj => ?_, fun j x hx p hpp => ?_⟩
    · simp only [AHeap.next_new] at hj
      rw [AHeap.get_new, if_neg (by omega)]
      exact hw.1 j (by omega)
    · simp only [AHeap.next_new]
      rw [AHeap.get_new] at hx
      split at hx
      · cases hx; have := hp p hpp; omega
      · have := hw.2 j x hx p hpp; omega
theorem Tame.append {ts us : List Tr} (h : Tame M ts) (h' : Tame (aps ts M) us) : Tame M (ts ++ us) := by
  refine ⟨by rw [aps_append]; exact Nat.le_trans h.1 h'.1, fun k o lg hm => ?_⟩
  rw [aps_append]
  rcases List.mem_append.1 hm with hm | hm
  · obtain ⟨a, b⟩ := h.2 k o lg hm
    exact ⟨a, Nat.lt_of_lt_of_le b h'.1⟩
  · obtain ⟨a, b⟩ := h'.2 k o lg hm
    exact ⟨fun e => Nat.le_trans h.1 (a e), b⟩
/-- An operation's answer, over each heap that holds more. -/
def OpTrs (P : Program) (E : Env) (T : List AV) (o : Oper) (M : AHeap) (r : ARes) : Prop :=
  match r with
  | .val v M' => ∃ ts, M' = aps ts M ∧ Tame M ts ∧ Wf M' ∧ ∀ H, Sub M H → opA P E T H o = some (.val v (aps ts H))
  | .call f args M' => M' = M ∧ ∀ H, Sub M H → opA P E T H o = some (.call f args H)
theorem storeRange_trs (hw : Wf M) {o : Id} {i : Nat} {vs : List AV} {M' : AHeap} (h : storeRange M o i vs = some M') :
    ∃ ts, M' = aps ts M ∧ Tame M ts ∧ Wf M' ∧ ∀ H, Sub M H → storeRange H o i vs = some (aps ts H) := by
  unfold storeRange at h
  split at h
  · cases h; exact ⟨[], rfl, Tame.nil _, hw, fun H _ => rfl⟩
  · rename_i hne
    split at h
    · cases h
    · rename_i k
      split at h
      · rename_i cs pre hk
        split at h
        · rename_i hc
          cases h
          obtain ⟨ts, g1, g2, g3⟩ := trs_set hw (pre := pre) (o' := .cells (setMany cs i vs) true []) hk (hw.2 k _ hk) (by simp [preOf])
          refine ⟨ts, g1 M, g2, g3, fun H hs => ?_⟩
          unfold storeRange
          split
          · exact absurd rfl hne
          · simp only [hs.get _ _ hk]
            rw [if_pos hc, g1 H]
        · cases h
      · cases h
theorem growA_trs (hw : Wf M) {size bytes n : Nat} {s a : AV} {news : List AV} {M' : AHeap} (h : growA E M size bytes s n news = some (a, M')) :
    ∃ ts, M' = aps ts M ∧ Tame M ts ∧ Wf M' ∧ ∀ H, Sub M H → growA E H size bytes s n news = some (a, aps ts H) := by
  unfold growA at h
  split at h
  · rename_i hl
    split at h
    · split at h
      · rename_i hn
        cases h
        exact ⟨[], rfl, Tame.nil _, hw, fun H _ => by unfold growA; rw [if_pos hl]; simp only; rw [if_pos hn]; rfl⟩
      · rename_i hn
        split at h
        · rename_i hb
          cases h
          obtain ⟨ts, g1, g2, g3⟩ := trs_new hw (o := .cells news true []) (by simp [preOf])
          refine ⟨ts, g1 M (Sub.refl M), g2, g3, fun H hs => ?_⟩
          unfold growA
          rw [if_pos hl]; simp only; rw [if_neg hn, if_pos hb, hs.next, newCells, g1 H hs]
        · cases h
    · rename_i o i len cap ex sz
      split at h
      · rename_i hn
        cases h
        exact ⟨[], rfl, Tame.nil _, hw, fun H _ => by unfold growA; rw [if_pos hl]; simp only; rw [if_pos hn]; rfl⟩
      · rename_i hn
        split at h
        · rename_i hb
          split at h
          · rename_i hex
            split at h
            · rename_i olds ho
              cases h
              obtain ⟨ts, g1, g2, g3⟩ := trs_new hw (o := .cells (olds ++ news) true []) (by simp [preOf])
              refine ⟨ts, g1 M (Sub.refl M), g2, g3, fun H hs => ?_⟩
              unfold growA
              rw [if_pos hl]; simp only; rw [if_neg hn, if_pos hb, if_pos hex, loadRange_sub hs ho]
              simp only
              rw [hs.next, newCells, g1 H hs]
            · cases h
          · rename_i hex
            split at h
            · cases h
            · rename_i k
              split at h
              · rename_i cs pre hk
                have hkn := hw.lt hk
                have hpl : ∀ p ∈ pre, p < M.next := hw.2 k _ hk
                split at h
                · rename_i hc
                  split at h
                  · rename_i hlt
                    cases h
                    obtain ⟨ts, g1, g2, g3⟩ := trs_set hw (o' := .cells (cs.take (i + len * size)) false []) hk hpl (by simp [preOf])
                    have hnx : ((M.killAll pre).set k (.cells (cs.take (i + len * size)) false [])).next = M.next := by simp
                    obtain ⟨us, k1, k2, k3⟩ := trs_new g3 (o := .cells ((cs.take (i + len * size)).drop i ++ news) true [k]) (by simp [preOf]; exact hkn)
                    refine ⟨ts ++ us, by rw [aps_append, ← g1, ← k1 _ (Sub.refl _)], g2.append (by rw [← g1]; exact k2), k3, fun H hs => ?_⟩
                    unfold growA
                    rw [if_pos hl]; simp only; rw [if_neg hn, if_pos hb, if_neg hex]
                    simp only [hs.get _ _ hk]
                    rw [if_pos hc, if_pos hlt, hs.next, g1 H, k1 _ (by rw [g1 M]; exact hs.aps ts), aps_append]
                  · rename_i hlt
                    cases h
                    obtain ⟨ts, g1, g2, g3⟩ := trs_set hw (o' := .cells cs false pre) (pre := []) hk (by simp) (by simpa [preOf] using hpl)
                    obtain ⟨us, k1, k2, k3⟩ := trs_new g3 (o := .cells (cs.drop i ++ news) true (k :: pre)) (by
                      intro p hp
                      simp only [preOf, List.mem_cons] at hp
                      rcases hp with rfl | hp
                      · exact hkn
                      · exact hpl p hp)
                    refine ⟨ts ++ us, by rw [aps_append, ← g1, ← k1 _ (Sub.refl _)]; rfl, g2.append (by rw [← g1]; exact k2), k3, fun H hs => ?_⟩
                    unfold growA
                    rw [if_pos hl]; simp only; rw [if_neg hn, if_pos hb, if_neg hex]
                    simp only [hs.get _ _ hk]
                    rw [if_pos hc, if_neg hlt, hs.next, aps_append, ← g1, ← k1 _ (by rw [g1 M, g1 H]; exact hs.aps ts)]
                    rfl
                · cases h
              · cases h
        · cases h
    · cases h
  · cases h
theorem newCells_trs (hw : Wf M) (cs : List AV) : ∃ ts, (∀ H, Sub M H → newCells H cs = aps ts H) ∧ Tame M ts ∧ Wf (newCells M cs) :=
  trs_new hw (o := .cells cs true []) (by simp [preOf])
theorem appendA_trs (hw : Wf M) {sT xT : TypeId} {s x a : AV} {M' : AHeap} (h : appendA P E M sT s xT x = some (a, M')) :
    ∃ ts, M' = aps ts M ∧ Tame M ts ∧ Wf M' ∧ ∀ H, Sub M H → appendA P E H sT s xT x = some (a, aps ts H) := by
  unfold appendA at h
  simp only [Option.bind_eq_bind, Option.bind_eq_some_iff] at h
  obtain ⟨e, he, size, hs, bytes, hb, z, hz, h⟩ := h
  split at h
  · rename_i hzs
    split at h
    · rename_i k hu
      simp only [Option.bind_eq_some_iff] at h
      obtain ⟨l, hl, h⟩ := h
      split at h
      · rename_i hc
        obtain ⟨ts, g1, g2, g3, g4⟩ := growA_trs hw h
        refine ⟨ts, g1, g2, g3, fun H hsub => ?_⟩
        unfold appendA
        simp only [Option.bind_eq_bind, he, hs, hb, hz, Option.bind_some, hzs, if_true, hu, hl]
        rw [if_pos hc, g4 H hsub]
      · cases h
    · rename_i d hd hu
      simp only [Option.bind_eq_some_iff] at h
      obtain ⟨n, hn, nw, hnw, h⟩ := h
      obtain ⟨ts, g1, g2, g3, g4⟩ := growA_trs hw h
      refine ⟨ts, g1, g2, g3, fun H hsub => ?_⟩
      unfold appendA
      simp only [Option.bind_eq_bind, he, hs, hb, hz, Option.bind_some, hzs, if_true, hu]
      have : (match some d with
        | some (.int _) => (do
            let l ← intOfA x
            if IntKind.i64.wrap l = l ∧ 0 ≤ l ∧ l * bytes ≤ 2 ^ 47 then growA E H size bytes s l.toNat (rep z.cells l.toNat) else none : Option (AV × AHeap))
        | some _ => (do
            let n ← lenOfA x
            let news ← firstA E H size n x
            growA E H size bytes s n news)
        | none => none) = some (a, aps ts H) := by
        cases d <;> first | exact (hd _ rfl).elim | (simp only [Option.bind_eq_bind, hn, Option.bind_some, firstA_sub hsub hnw]; exact g4 H hsub)
      simpa only [Option.bind_eq_bind] using this
    · cases h
  · cases h
theorem copyA_trs (hw : Wf M) {dT : TypeId} {d x a : AV} {M' : AHeap} (h : copyA P E M dT d x = some (a, M')) :
    ∃ ts, M' = aps ts M ∧ Tame M ts ∧ Wf M' ∧ ∀ H, Sub M H → copyA P E H dT d x = some (a, aps ts H) := by
  unfold copyA at h
  simp only [Option.bind_eq_bind, Option.bind_eq_some_iff] at h
  obtain ⟨e, he, size, hs, k, hk, h⟩ := h
  split at h
  · cases h
    exact ⟨[], rfl, Tame.nil _, hw, fun H _ => by unfold copyA; simp only [Option.bind_eq_bind, he, hs, hk, Option.bind_some]; rfl⟩
  · rename_i o i len cap ex sz
    simp only [Option.bind_eq_some_iff] at h
    obtain ⟨nw, hnw, H1, hst, h⟩ := h
    cases h
    obtain ⟨ts, g1, g2, g3, g4⟩ := storeRange_trs hw hst
    refine ⟨ts, g1, g2, g3, fun H hsub => ?_⟩
    unfold copyA
    simp only [Option.bind_eq_bind, he, hs, hk, Option.bind_some, firstA_sub hsub hnw, g4 H hsub]
  · cases h
theorem convA_trs (hw : Wf M) {src dst : TypeId} {x a : AV} {M' : AHeap} (h : convA P E M src dst x = some (a, M')) :
    ∃ ts, M' = aps ts M ∧ Tame M ts ∧ Wf M' ∧ ∀ H, Sub M H → convA P E H src dst x = some (a, aps ts H) := by
  unfold convA at h
  split at h
  · rename_i h1 h2
    cases h
    refine ⟨[], rfl, Tame.nil _, hw, fun H _ => ?_⟩
    unfold convA; rw [h1, h2]; rfl
  · rename_i h1 h2
    cases h
    refine ⟨[], rfl, Tame.nil _, hw, fun H _ => ?_⟩
    unfold convA; rw [h1, h2]; rfl
  · rename_i d e s h1 h2
    split at h
    · rename_i he
      split at h
      · rename_i hl
        cases h
        obtain ⟨ts, g1, g2, g3⟩ := newCells_trs hw (s.map fun b => AV.int .u8 b.toNat)
        refine ⟨ts, g1 M (Sub.refl M), g2, g3, fun H hs => ?_⟩
        unfold convA; rw [h1, h2]; simp only [he, hl, if_true, hs.next, g1 H hs]
      · cases h
    · cases h
  · rename_i d e k i len cap ex sz h1 h2
    split at h
    · rename_i he
      split at h
      · rename_i hc
        cases h
        refine ⟨[], rfl, Tame.nil _, hw, fun H hs => ?_⟩
        obtain ⟨cs, hcs⟩ := Option.isSome_iff_exists.1 hc.2.2
        have hc' : src = dst ∧ len ≠ 0 ∧ (cellsOf E H (.new k)).isSome := ⟨hc.1, hc.2.1, by rw [cellsOf_sub hs hcs]; rfl⟩
        unfold convA; rw [h1, h2]; simp only [he]
        rw [if_pos hc']; rfl
      · cases h
    · cases h
  · rename_i e h1 h2 hno
    split at h
    · rename_i he
      split at h
      · cases h
        refine ⟨[], rfl, Tame.nil _, hw, fun H _ => ?_⟩
        unfold convA; rw [h1, h2]; simp only [he]; rfl
      · rename_i o i len cap ex sz _
        split at h
        · rename_i cs hcs
          simp only [Option.map_eq_some_iff] at h
          obtain ⟨bs, hbs, h⟩ := h
          cases h
          refine ⟨[], rfl, Tame.nil _, hw, fun H hs => ?_⟩
          unfold convA; rw [h1, h2]; simp only [he, rangeOr_sub hs hcs, hbs]; rfl
        · cases h
      · cases h
    · cases h
  · cases h
theorem map_trs (hw : Wf M) {k : Nat} {es es' : List (AV × AV × Nat)} {clock clock' : Nat} (hk : M.get k = some (.map es clock)) :
    ∃ ts, (∀ H : AHeap, H.set k (.map es' clock') = aps ts H) ∧ Tame M ts ∧ Wf (M.set k (.map es' clock')) := by
  obtain ⟨ts, g1, g2, g3⟩ := trs_set hw (pre := []) (o' := .map es' clock') hk (by simp) (by simp [preOf])
  exact ⟨ts, g1, g2, g3⟩
theorem updateA_trs (hw : Wf M) {t : TypeId} {m key v : AV} {M' : AHeap} (h : updateA P M t m key v = some M') :
    ∃ ts, M' = aps ts M ∧ Tame M ts ∧ Wf M' ∧ ∀ H, Sub M H → updateA P H t m key v = some (aps ts H) := by
  unfold updateA at h
  split at h
  · rename_i kt e k hu
    split at h
    · rename_i hf
      split at h
      · rename_i es clock hk
        split at h
        · rename_i hfa
          cases h
          obtain ⟨ts, g1, g2, g3⟩ := map_trs hw hk
          refine ⟨ts, g1 M, g2, g3, fun H hs => ?_⟩
          unfold updateA; rw [hu]; simp only [hf, if_true, hs.get _ _ hk, hfa, g1 H]
        · rename_i hfa
          cases h
          obtain ⟨ts, g1, g2, g3⟩ := map_trs hw hk
          refine ⟨ts, g1 M, g2, g3, fun H hs => ?_⟩
          unfold updateA; rw [hu]; simp only [hf, if_true, hs.get _ _ hk, hfa, g1 H]
        · cases h
      · cases h
    · cases h
  · cases h
theorem entryA_trs (hw : Wf M) {t : TypeId} {m key a : AV} {M' : AHeap} (h : entryA P M t m key = some (a, M')) :
    ∃ ts, M' = aps ts M ∧ Tame M ts ∧ Wf M' ∧ ∀ H, Sub M H → entryA P H t m key = some (a, aps ts H) := by
  unfold entryA at h
  split at h
  · rename_i kt e k hu
    split at h
    · rename_i hf
      split at h
      · rename_i es clock hk
        split at h
        · rename_i hfa
          cases h
          obtain ⟨ts, g1, g2, g3⟩ := map_trs hw hk
          refine ⟨ts, g1 M, g2, g3, fun H hs => ?_⟩
          unfold entryA; rw [hu]; simp only [hf, if_true, hs.get _ _ hk, hfa, g1 H]
        · rename_i hfa
          split at h
          · rename_i z hz
            cases h
            obtain ⟨ts, g1, g2, g3⟩ := map_trs hw hk
            refine ⟨ts, g1 M, g2, g3, fun H hs => ?_⟩
            unfold entryA; rw [hu]; simp only [hf, if_true, hs.get _ _ hk, hfa, hz, g1 H]
          · cases h
        · cases h
      · cases h
    · cases h
  · cases h
theorem entryStoreA_trs (hw : Wf M) {m stamp v : AV} {M' : AHeap} (h : entryStoreA M m stamp v = some M') :
    ∃ ts, M' = aps ts M ∧ Tame M ts ∧ Wf M' ∧ ∀ H, Sub M H → entryStoreA H m stamp v = some (aps ts H) := by
  unfold entryStoreA at h
  split at h
  · rename_i k ik n
    split at h
    · rename_i es clock hk
      split at h
      · rename_i i hi
        split at h
        · rename_i ent hent
          cases h
          obtain ⟨ts, g1, g2, g3⟩ := map_trs hw hk
          refine ⟨ts, g1 M, g2, g3, fun H hs => ?_⟩
          unfold entryStoreA; simp only [hs.get _ _ hk, hi, hent, g1 H]
        · cases h
      · cases h
    · cases h
  · cases h
theorem lookupA_sub (h : Sub M H) {t : TypeId} {x ix : AV} {ok : Bool} {a : AV} (e : lookupA P M t x ix ok = some a) : lookupA P H t x ix ok = some a := by
  unfold lookupA at e ⊢
  split at e
  · split at e
    · rename_i hf
      rw [if_pos hf]
      simp only [Option.bind_eq_some_iff] at e ⊢
      obtain ⟨es, hes, e⟩ := e
      exact ⟨es, entriesA_sub h hes, e⟩
    · cases e
  · cases e
theorem mapLenA_sub (h : Sub M H) {t : TypeId} {x : AV} {n : Nat} (e : mapLenA P M t x = some n) : mapLenA P H t x = some n := by
  unfold mapLenA at e ⊢
  split at e
  · exact e
  · split at e
    · rename_i es c hk; simp only [h.get _ _ hk]; exact e
    · cases e
  · cases e
theorem sliceA_sub (h : Sub M H) {t : TypeId} {x : AV} {lo hi mx : Option AV} {a : AV} (e : sliceA P M t x lo hi mx = some a) : sliceA P H t x lo hi mx = some a := by
  unfold sliceA at e ⊢
  split at e
  · exact e
  · exact e
  · exact e
  · simp only [Option.bind_eq_bind, Option.bind_eq_some_iff] at e ⊢
    obtain ⟨size, hs, r, hr, e⟩ := e
    refine ⟨size, hs, r, hr, ?_⟩
    split at e
    · rename_i cs wr pre hk; rw [h.get _ _ hk]; exact e
    · cases e
  · cases e
theorem buildSliceA_trs (hw : Wf M) {t : TypeId} {len : Nat} {ps : List (Nat × AV)} {a : AV} {M' : AHeap} (h : buildSliceA P M t len ps = some (a, M')) :
    ∃ ts, M' = aps ts M ∧ Tame M ts ∧ Wf M' ∧ ∀ H, Sub M H → buildSliceA P H t len ps = some (a, aps ts H) := by
  unfold buildSliceA at h
  simp only [Option.bind_eq_bind, Option.bind_eq_some_iff] at h
  obtain ⟨e, he, size, hs, h⟩ := h
  split at h
  · rename_i hn
    simp only [Option.bind_eq_some_iff] at h
    obtain ⟨z, hz, h⟩ := h
    split at h
    · rename_i hzs
      simp only [Option.bind_eq_some_iff] at h
      obtain ⟨cs, hcs, h⟩ := h
      cases h
      obtain ⟨ts, g1, g2, g3⟩ := newCells_trs hw cs
      refine ⟨ts, g1 M (Sub.refl M), g2, g3, fun H hsub => ?_⟩
      unfold buildSliceA
      simp only [Option.bind_eq_bind, he, hs, Option.bind_some, hn, if_true, hz, hzs, hcs, hsub.next, g1 H hsub]
    · cases h
  · cases h
theorem makeSliceA_trs (hw : Wf M) {t : TypeId} {len cap a : AV} {M' : AHeap} (h : makeSliceA P M t len cap = some (a, M')) :
    ∃ ts, M' = aps ts M ∧ Tame M ts ∧ Wf M' ∧ ∀ H, Sub M H → makeSliceA P H t len cap = some (a, aps ts H) := by
  unfold makeSliceA at h
  simp only [Option.bind_eq_bind, Option.bind_eq_some_iff] at h
  obtain ⟨e, he, size, hs, b, hb, l, hl, c, hc, z, hz, h⟩ := h
  split at h
  · rename_i hcond
    cases h
    obtain ⟨ts, g1, g2, g3⟩ := newCells_trs hw (rep z.cells c.toNat)
    refine ⟨ts, g1 M (Sub.refl M), g2, g3, fun H hsub => ?_⟩
    unfold makeSliceA
    simp only [Option.bind_eq_bind, he, hs, hb, hl, hc, hz, Option.bind_some]
    rw [if_pos hcond, hsub.next, g1 H hsub]
  · cases h
end
end Go.Am
end

section
namespace Go.Am
section
variable {E : Env} {P : Program} {M : AHeap} {T : List AV} {o : Oper}
theorem pure_trs (hw : Wf M) {v : AV} (h : ∀ H, Sub M H → opA P E T H o = some (.val v H)) : OpTrs P E T o M (.val v M) :=
  ⟨[], rfl, Tame.nil _, hw, h⟩
theorem enterA_sub {f : FuncId} {args : List AV} {r : ARes} (h : enterA P M f args = some r) : r = .call f args M ∧ ∀ H, enterA P H f args = some (.call f args H) := by
  unfold enterA at h
  split at h
  · rename_i hb
    cases h
    exact ⟨rfl, fun H => by unfold enterA; rw [if_pos hb]⟩
  · cases h
theorem enter_trs {f : FuncId} {args : List AV} {r : ARes} (h : enterA P M f args = some r) (ho : ∀ H, Sub M H → opA P E T H o = enterA P H f args) : OpTrs P E T o M r := by
  obtain ⟨rfl, h2⟩ := enterA_sub h
  exact ⟨rfl, fun H hs => (ho H hs).trans (h2 H)⟩
theorem callA_trs (hw : Wf M) {c : Call} (hop : o.op = .call c) {r : ARes} (h : callA P E M c (aEval T) = some r) : OpTrs P E T o M r := by
  have ho : ∀ H, opA P E T H o = callA P E H c (aEval T) := fun H => by unfold opA; simp only [hop]
  unfold callA at h
  simp only at h
  split at h
  · rename_i f hc
    split at h
    · rename_i g first captured hf
      exact enter_trs h fun H _ => by rw [ho]; unfold callA; simp only [hc, hf]
    · rename_i name first captured hf
      split at h
      · rename_i t v rest _ hl
        simp only [Option.bind_eq_some_iff] at h
        obtain ⟨⟨g, x⟩, hm, h⟩ := h
        refine enter_trs h fun H hs => ?_
        rw [ho]; unfold callA; simp only [hc, hf, hl, methodA_sub hs hm, Option.bind_some]
      · cases h
    · rename_i t path g pointer first captured hf
      split at h
      · rename_i x rest _ hp hl hu
        split at h
        · rename_i hptr
          refine enter_trs h fun H hs => ?_
          rw [ho]; unfold callA; simp only [hc, hf, hl, hp, hu, hptr, if_true]
        · cases h
      · cases h
    · cases h
  · rename_i recv name hc
    split at h
    · rename_i t v hf
      simp only [Option.bind_eq_some_iff] at h
      obtain ⟨⟨g, x⟩, hm, h⟩ := h
      refine enter_trs h fun H hs => ?_
      rw [ho]; unfold callA; simp only [hc, hf, methodA_sub hs hm, Option.bind_some]
    · cases h
  · rename_i b hc
    split at h
    · rename_i s x sT xT h1 h2
      simp only [Option.map_eq_some_iff] at h
      obtain ⟨⟨a, M'⟩, ha, rfl⟩ := h
      obtain ⟨ts, g1, g2, g3, g4⟩ := appendA_trs hw ha
      exact ⟨ts, g1, g2, g3, fun H hs => by rw [ho]; unfold callA; simp only [hc, h1, h2, g4 H hs, Option.map_some]⟩
    · rename_i x t h1 h2
      split at h
      · rename_i n hn
        cases h
        exact pure_trs hw fun H hs => by rw [ho]; unfold callA; simp only [hc, h1, h2, hn]
      · rename_i hn
        simp only [Option.map_eq_some_iff] at h
        obtain ⟨n, hm, rfl⟩ := h
        exact pure_trs hw fun H hs => by rw [ho]; unfold callA; simp only [hc, h1, h2, hn, mapLenA_sub hs hm, Option.map_some]
    · rename_i x t h1 h2
      simp only [Option.map_eq_some_iff] at h
      obtain ⟨n, hm, rfl⟩ := h
      exact pure_trs hw fun H hs => by rw [ho]; unfold callA; simp only [hc, h1, h2, hm, Option.map_some]
    · rename_i d x dT _ h1 h2
      simp only [Option.map_eq_some_iff] at h
      obtain ⟨⟨a, M'⟩, ha, rfl⟩ := h
      obtain ⟨ts, g1, g2, g3, g4⟩ := copyA_trs hw ha
      exact ⟨ts, g1, g2, g3, fun H hs => by rw [ho]; unfold callA; simp only [hc, h1, h2, g4 H hs, Option.map_some]⟩
    · simp only [Option.map_eq_some_iff] at h
      obtain ⟨n, hm, rfl⟩ := h
      exact pure_trs hw fun H hs => by rw [ho]; unfold callA; simp only [hc, hm, Option.map_some]
    · simp only [Option.map_eq_some_iff] at h
      obtain ⟨n, hm, rfl⟩ := h
      exact pure_trs hw fun H hs => by rw [ho]; unfold callA; simp only [hc, hm, Option.map_some]
    · cases h
theorem vh_trs (f : AHeap → Option (AV × AHeap)) {r : ARes} (ho : ∀ H, opA P E T H o = (f H).map fun x => .val x.1 x.2) (h : (f M).map (fun x => ARes.val x.1 x.2) = some r)
    (ht : ∀ a M', f M = some (a, M') → ∃ ts, M' = aps ts M ∧ Tame M ts ∧ Wf M' ∧ ∀ H, Sub M H → f H = some (a, aps ts H)) : OpTrs P E T o M r := by
  simp only [Option.map_eq_some_iff] at h
  obtain ⟨⟨a, M'⟩, ha, rfl⟩ := h
  obtain ⟨ts, g1, g2, g3, g4⟩ := ht a M' ha
  exact ⟨ts, g1, g2, g3, fun H hs => by rw [ho, g4 H hs]; rfl⟩
theorem h_trs (f : AHeap → Option AHeap) {r : ARes} (ho : ∀ H, opA P E T H o = (f H).map fun x => .val undefA x) (h : (f M).map (fun x => ARes.val undefA x) = some r)
    (ht : ∀ M', f M = some M' → ∃ ts, M' = aps ts M ∧ Tame M ts ∧ Wf M' ∧ ∀ H, Sub M H → f H = some (aps ts H)) : OpTrs P E T o M r := by
  simp only [Option.map_eq_some_iff] at h
  obtain ⟨M', ha, rfl⟩ := h
  obtain ⟨ts, g1, g2, g3, g4⟩ := ht M' ha
  exact ⟨ts, g1, g2, g3, fun H hs => by rw [ho, g4 H hs]; rfl⟩
theorem v_trs (hw : Wf M) (f : AHeap → Option AV) {r : ARes} (ho : ∀ H, opA P E T H o = (f H).map fun x => .val x H) (h : (f M).map (fun x => ARes.val x M) = some r)
    (ht : ∀ a, f M = some a → ∀ H, Sub M H → f H = some a) : OpTrs P E T o M r := by
  simp only [Option.map_eq_some_iff] at h
  obtain ⟨a, ha, rfl⟩ := h
  exact pure_trs hw fun H hs => by rw [ho, ht a ha H hs]; rfl
theorem opA_trs (hw : Wf M) {r : ARes} (h : opA P E T M o = some r) : OpTrs P E T o M r := by
  unfold opA at h
  simp only at h
  split at h
  case h_1 x hop =>
    cases h; exact pure_trs hw fun H hs => by unfold opA; simp only [hop]
  case h_2 x hop =>
    cases h; exact pure_trs hw fun H hs => by unfold opA; simp only [hop]
  case h_3 c a b hop =>
    split at h
    · rename_i t ht
      cases h; exact pure_trs hw fun H hs => by unfold opA; simp only [hop, ht]
    · cases h
  case h_4 e hop =>
    split at h
    · rename_i z hz
      cases h
      obtain ⟨ts, g1, g2, g3⟩ := newCells_trs hw z.cells
      exact ⟨ts, g1 M (Sub.refl M), g2, g3, fun H hs => by unfold opA; simp only [hop, hz, hs.next, g1 H hs]⟩
    · cases h
  case h_5 t x hop =>
    cases h
    obtain ⟨ts, g1, g2, g3⟩ := newCells_trs hw (aEval T x).cells
    exact ⟨ts, g1 M (Sub.refl M), g2, g3, fun H hs => by unfold opA; simp only [hop, hs.next, g1 H hs]⟩
  case h_6 t parts hop =>
    exact v_trs hw (fun H => buildA P t (parts.toList.map fun (p : Nat × Operand) => (p.1, aEval T p.2))) (fun H => by unfold opA; simp only [hop]) h fun a e H hs => e
  case h_7 t len parts hop =>
    exact vh_trs (fun H => buildSliceA P H t len (parts.toList.map fun (p : Nat × Operand) => (p.1, aEval T p.2))) (fun H => by unfold opA; simp only [hop]) h fun a M' e => buildSliceA_trs hw e
  case h_8 t a hop =>
    split at h
    · rename_i o1 i ha
      exact v_trs hw (fun H => loadVarA P E H t o1 i) (fun H => by unfold opA; simp only [hop, ha]) h fun a e H hs => loadVarA_sub hs e
    · cases h
  case h_9 t a x hop =>
    split at h
    · rename_i o1 i ha
      split at h
      · rename_i hsz
        exact h_trs (fun H => storeRange H o1 i (aEval T x).cells) (fun H => by unfold opA; simp only [hop, ha, hsz, if_true]) h fun M' e => storeRange_trs hw e
      · cases h
    · cases h
  case h_10 x hop =>
    split at h
    all_goals first | (cases h; done) | skip
    rename_i g1 g2 g3 g4 g5
    cases h
    refine pure_trs hw fun H hs => ?_
    unfold opA; simp only [hop]
  case h_11 op t x y _w hop =>
    split at h
    · rename_i hg
      exact v_trs hw (fun H => binA P op t (aEval T x) (aEval T y)) (fun H => by unfold opA; simp only [hop, hg, if_true]) h fun a e H hs => e
    · cases h
  case h_12 op _t x hop =>
    exact v_trs hw (fun H => unA op (aEval T x)) (fun H => by unfold opA; simp only [hop]) h fun a e H hs => e
  case h_13 src dst x hop =>
    exact vh_trs (fun H => convA P E H src dst (aEval T x)) (fun H => by unfold opA; simp only [hop]) h fun a M' e => convA_trs hw e
  case h_14 t x hop =>
    split at h
    · cases h
    · rename_i u hne hu
      cases h; exact pure_trs hw fun H hs => by unfold opA; simp only [hop, hu]
    · cases h
  case h_15 fn first captured hop =>
    cases h; exact pure_trs hw fun H hs => by unfold opA; simp only [hop]
  case h_16 _t r hop =>
    split at h
    · cases h
      obtain ⟨ts, g1, g2, g3⟩ := trs_new hw (o := .map [] 0) (by simp [preOf])
      exact ⟨ts, g1 M (Sub.refl M), g2, g3, fun H hs => by unfold opA; simp only [hop, hs.next, g1 H hs]⟩
    · cases h
  case h_17 t l c hop =>
    exact vh_trs (fun H => makeSliceA P H t (aEval T l) (aEval T c)) (fun H => by unfold opA; simp only [hop]) h fun a M' e => makeSliceA_trs hw e
  case h_18 t x lo hi mx hop =>
    exact v_trs hw (fun H => sliceA P H t (aEval T x) (lo.map (aEval T)) (hi.map (aEval T)) (mx.map (aEval T))) (fun H => by unfold opA; simp only [hop]) h fun a e H hs => sliceA_sub hs e
  case h_19 s x f hop =>
    exact v_trs hw (fun H => fieldAtA P s (aEval T x) f) (fun H => by unfold opA; simp only [hop]) h fun a e H hs => e
  case h_20 s x f hop =>
    exact v_trs hw (fun H => fieldA P s (aEval T x) f) (fun H => by unfold opA; simp only [hop]) h fun a e H hs => e
  case h_21 t x ix hop =>
    exact v_trs hw (fun H => indexAtA P t (aEval T x) (aEval T ix)) (fun H => by unfold opA; simp only [hop]) h fun a e H hs => e
  case h_22 t x ix hop =>
    exact v_trs hw (fun H => indexA P t (aEval T x) (aEval T ix)) (fun H => by unfold opA; simp only [hop]) h fun a e H hs => e
  case h_23 t x ix ok hop =>
    exact v_trs hw (fun H => lookupA P H t (aEval T x) (aEval T ix) ok) (fun H => by unfold opA; simp only [hop]) h fun a e H hs => lookupA_sub hs e
  case h_24 t m k x hop =>
    exact h_trs (fun H => updateA P H t (aEval T m) (aEval T k) (aEval T x)) (fun H => by unfold opA; simp only [hop]) h fun M' e => updateA_trs hw e
  case h_25 t m k x hop =>
    exact h_trs (fun H => updateA P H t (aEval T m) (aEval T k) (aEval T x)) (fun H => by unfold opA; simp only [hop]) h fun M' e => updateA_trs hw e
  case h_26 t m k hop =>
    exact vh_trs (fun H => entryA P H t (aEval T m) (aEval T k)) (fun H => by unfold opA; simp only [hop]) h fun a M' e => entryA_trs hw e
  case h_27 _t m s x hop =>
    exact h_trs (fun H => entryStoreA H (aEval T m) (aEval T s) (aEval T x)) (fun H => by unfold opA; simp only [hop]) h fun M' e => entryStoreA_trs hw e
  case h_28 x _t asserted ok hop =>
    exact v_trs hw (fun H => assertA P (aEval T x) asserted ok) (fun H => by unfold opA; simp only [hop]) h fun a e H hs => e
  case h_29 t ix hop =>
    split at h
    · rename_i vs hv
      exact v_trs hw (fun H => vs[ix]?) (fun H => by unfold opA; simp only [hop, hv]) h fun a e H hs => e
    · cases h
  case h_30 c hop => exact callA_trs hw hop h
  case h_31 => cases h
end
end Go.Am
end

section
namespace Go.Am
section
variable {E : Env} {P : Program}
theorem callA_congr {T T' : List AV} {H : AHeap} (c : Call) (h : ∀ x ∈ c.operands, aEval T x = aEval T' x) : callA P E H c (aEval T) = callA P E H c (aEval T') := by
  have hargs : c.args.toList.map (aEval T) = c.args.toList.map (aEval T') := List.map_congr_left fun x hx => h x (by
    have : x ∈ c.args := by simpa using hx
    simp [Call.operands, this])
  unfold callA
  simp only [hargs]
  cases hc : c.callee with
  | value f => have hf : aEval T f = aEval T' f := h f (by simp [Call.operands, hc]); simp only [hf]
  | invoke r m => have hr : aEval T r = aEval T' r := h r (by simp [Call.operands, hc]); simp only [hr]
  | builtin b => rfl
theorem opA_congr {T T' : List AV} {H : AHeap} (o : Oper) (h : ∀ x ∈ o.op.operands, aEval T x = aEval T' x) : opA P E T H o = opA P E T' H o := by
  obtain ⟨dst, op, type, pos, after, guard⟩ := o
  have pairs : ∀ ps : Array (Nat × Operand), (∀ x ∈ ps.map (·.2), aEval T x = aEval T' x) →
      (ps.toList.map fun (p : Nat × Operand) => (p.1, aEval T p.2)) = (ps.toList.map fun (p : Nat × Operand) => (p.1, aEval T' p.2)) := fun ps hp =>
    List.map_congr_left fun p hm => by
      obtain ⟨i, x⟩ := p
      simp only [hp x (Array.mem_map.2 ⟨(i, x), by simpa using hm, rfl⟩)]
  cases op <;> simp only [Op.operands] at h <;> simp only [opA]
  case build t ps => rw [pairs ps fun x hx => h x (by simpa using hx)]
  case buildSlice t n ps => rw [pairs ps fun x hx => h x (by simpa using hx)]
  case makeFunc fn first captured =>
    rw [List.map_congr_left (l := first.toList) fun x hx => h x (by have : x ∈ first := by simpa using hx
                                                                    simp [this]), List.map_congr_left (l := captured.toList) fun x hx => h x (by have : x ∈ captured := by simpa using hx
                                                                                                                                                 simp [this])]
  case call c => rw [callA_congr c h]
  case slice t x lo hi mx => cases lo <;> cases hi <;> cases mx <;> simp_all
  all_goals (first | rfl | (simp_all; done))
/-- Two rows of values that are one where an operation looks. -/
def Agree (ops : Array Oper) (o : Oper) (T T' : List AV) : Prop := ∀ t ∈ o.looksAt ops, T[t]? = T'[t]?
theorem Agree.eval {ops : Array Oper} {o : Oper} {T T' : List AV} (h : Agree ops o T T') : ∀ x ∈ o.op.operands, aEval T x = aEval T' x := by
  intro x hx
  cases x with
  | tmp t =>
    have := h t (List.mem_append_left _ (List.mem_filterMap.2 ⟨.tmp t, by simpa using hx, rfl⟩))
    simp only [aEval, List.getD_eq_getElem?_getD, this]
  | _ => rfl
theorem Agree.wanted {ops : Array Oper} {o : Oper} {T T' : List AV} (h : Agree ops o T T') : wantedA ops T o = wantedA ops T' o := by
  unfold wantedA
  cases hg : o.guard with
  | none => rfl
  | some gw =>
    obtain ⟨g, want⟩ := gw
    simp only
    cases ht : (ops[g]?).bind (·.dst) with
    | none => rfl
    | some t =>
      have := h t (by simp [Oper.looksAt, hg, ht])
      simp only [this]
variable {call : CallF}
theorem stepA_congr {ops : Array Oper} {o : Oper} {T T' : List AV} {H : AHeap} (h : Agree ops o T T') : stepA P E call ops T H o = stepA P E call ops T' H o := by
  unfold stepA
  rw [h.wanted, opA_congr o h.eval]
/-- Nothing lies where new objects are to come. -/
def Free (H : AHeap) (a b : Nat) : Prop := ∀ k, a ≤ k → k < b → H.get k = none
/-- A call over a heap with more in it. -/
def CallTrs (call : CallF) : Prop := ∀ f args M v M', Wf M → call f args M = some (v, M') →
  ∃ ts, M' = aps ts M ∧ Tame M ts ∧ Wf M' ∧ ∀ H, Sub M H → Free H M.next M'.next → call f args H = some (v, aps ts H)
theorem get_tr (t : Tr) (H : AHeap) (k : Nat) : (t.ap H).get k = match t with
    | .put j o _ => if j = k then o else H.get k
    | .next _ => H.get k := by
  cases t with
  | put j o lg => simp only [Tr.ap, AHeap.get, Trie.get_set]
  | next n => rfl
theorem aps_untouched : ∀ (ts : List Tr) (H : AHeap) (k : Nat), (∀ o lg, Tr.put k o lg ∉ ts) → (aps ts H).get k = H.get k
  | [], H, k, _ => rfl
  | t :: ts, H, k, h => by
    rw [aps, aps_untouched ts _ k fun o lg hm => h o lg (List.mem_cons_of_mem _ hm), get_tr]
    cases t with
    | put j o lg =>
      simp only
      split
      · rename_i e; subst e; exact (h o lg List.mem_cons_self).elim
      · rfl
    | next n => rfl
/-- What a turn has touched is the same on any heap. -/
theorem aps_touched : ∀ (ts : List Tr) (A B : AHeap) (k : Nat), (A.get k = B.get k ∨ ∃ o lg, Tr.put k o lg ∈ ts) → (aps ts A).get k = (aps ts B).get k
  | [], A, B, k, h => h.elim id fun ⟨_, _, hm⟩ => by cases hm
  | t :: ts, A, B, k, h => by
    simp only [aps]
    refine aps_touched ts _ _ k ?_
    rcases h with h | ⟨o, lg, hm⟩
    · left
      rw [get_tr, get_tr]
      cases t <;> simp only [h]
    · rcases List.mem_cons.1 hm with rfl | hm
      · left; rw [get_tr, get_tr]; simp
      · exact .inr ⟨o, lg, hm⟩
theorem next_aps_eq : ∀ (ts : List Tr) {A B : AHeap}, A.next = B.next → (aps ts A).next = (aps ts B).next
  | [], _, _, h => h
  | t :: ts, A, B, h => next_aps_eq ts (by cases t <;> first | exact h | rfl)
theorem log_aps : ∀ (ts : List Tr) (A : AHeap) (k : Nat), k ∈ (aps ts A).log ↔ k ∈ A.log ∨ ∃ o, Tr.put k o true ∈ ts
  | [], A, k => by simp [aps]
  | t :: ts, A, k => by
    rw [aps, log_aps ts]
    cases t with
    | put j o lg =>
      cases lg with
      | true =>
        simp only [Tr.ap, if_true, List.mem_cons]
        constructor
        · rintro ((rfl | h) | ⟨x, h⟩)
          · exact .inr ⟨o, .inl rfl⟩
          · exact .inl h
          · exact .inr ⟨x, .inr h⟩
        · rintro (h | ⟨x, h | h⟩)
          · exact .inl (.inr h)
          · cases h; exact .inl (.inl rfl)
          · exact .inr ⟨x, h⟩
      | false => simp [Tr.ap]
    | next n => simp [Tr.ap]
theorem Free.sub {M H : AHeap} (_ : Wf M) {a b c d : Nat} (h : Free H a b) (h1 : a ≤ c) (h2 : d ≤ b) : Free H c d := fun k x y => h k (by omega) (by omega)
theorem Tame.free {M H : AHeap} {ts : List Tr} (ht : Tame M ts) {a b : Nat} (h1 : (aps ts M).next ≤ a) (h : Free H a b) : Free (aps ts H) a b := by
  intro k hk1 hk2
  rw [aps_untouched ts H k fun o lg hm => ?_, h k hk1 hk2]
  have := (ht.2 k o lg hm).2
  omega
theorem stepA_trs (hc : CallTrs call) {ops : Array Oper} {T : List AV} {o : Oper} {M M' : AHeap} {v : AV} (hw : Wf M) (h : stepA P E call ops T M o = some (v, M')) :
    ∃ ts, M' = aps ts M ∧ Tame M ts ∧ Wf M' ∧ ∀ H, Sub M H → Free H M.next M'.next → stepA P E call ops T H o = some (v, aps ts H) := by
  unfold stepA at h
  split at h
  · rename_i hwt
    split at h
    · rename_i v1 H1 h1
      cases h
      obtain ⟨ts, g1, g2, g3, g4⟩ := opA_trs hw h1
      exact ⟨ts, g1, g2, g3, fun H hs _ => by unfold stepA; simp only [hwt, g4 H hs]⟩
    · rename_i f args H1 h1
      obtain ⟨rfl, g4⟩ := opA_trs hw h1
      obtain ⟨ts, k1, k2, k3, k4⟩ := hc _ _ _ _ _ hw h
      exact ⟨ts, k1, k2, k3, fun H hs hf => by unfold stepA; simp only [hwt, g4 H hs]; exact k4 H hs hf⟩
    · cases h
  · rename_i hwt
    cases h
    exact ⟨[], rfl, Tame.nil _, hw, fun H hs _ => by unfold stepA; simp only [hwt]; rfl⟩
  · cases h
theorem opsA_trs (hc : CallTrs call) {ops : Array Oper} : ∀ (l : List Oper) (T : List AV) (M : AHeap) (T' : List AV) (M' : AHeap), Wf M → opsA P E call ops l T M = some (T', M') →
    ∃ ts, M' = aps ts M ∧ Tame M ts ∧ Wf M' ∧ ∀ H, Sub M H → Free H M.next M'.next → opsA P E call ops l T H = some (T', aps ts H)
  | [], T, M, T', M', hw, h => by
    simp only [opsA] at h; cases h
    exact ⟨[], rfl, Tame.nil _, hw, fun H _ _ => rfl⟩
  | o :: l, T, M, T', M', hw, h => by
    simp only [opsA] at h
    split at h
    · rename_i v M1 h1
      obtain ⟨ts, g1, g2, g3, g4⟩ := stepA_trs hc hw h1
      obtain ⟨us, k1, k2, k3, k4⟩ := opsA_trs hc l _ _ _ _ g3 h
      subst g1
      have hn1 : M.next ≤ (aps ts M).next := g2.1
      have hn2 : (aps ts M).next ≤ (aps us (aps ts M)).next := k2.1
      subst k1
      refine ⟨ts ++ us, (aps_append ..).symm, g2.append k2, k3, fun H hs hf => ?_⟩
      have e1 := g4 H hs (hf.sub hw (Nat.le_refl _) hn2)
      have e2 := k4 (aps ts H) (hs.aps ts) (g2.free (Nat.le_refl _) (hf.sub hw hn1 (Nat.le_refl _)))
      simp only [opsA, e1, e2, aps_append]
    · cases h
end
end Go.Am
end

section
namespace Go.Am
mutual
theorem sameA_eq : ∀ (a b : AV), sameA a b = true → a = b
  | .bool a, b, h => by cases b <;> simp_all [sameA]
  | .int j a, b, h => by cases b <;> simp_all [sameA]
  | .str a, b, h => by cases b <;> simp_all [sameA]
  | .nilPtr, b, h => by cases b <;> simp_all [sameA]
  | .ptr o i, b, h => by cases b <;> simp_all [sameA]
  | .nilSlc, b, h => by cases b <;> simp_all [sameA]
  | .slc .., b, h => by cases b <;> simp_all [sameA]
  | .nilMap, b, h => by cases b <;> simp_all [sameA]
  | .map k, b, h => by cases b <;> simp_all [sameA]
  | .fn f x y, b, h => by
    cases b <;> simp only [sameA, Bool.and_eq_true, decide_eq_true_eq] at h <;> try (cases h; done)
    obtain ⟨⟨rfl, h1⟩, h2⟩ := h
    rw [sameL_eq x _ h1, sameL_eq y _ h2]
  | .nilFn, b, h => by cases b <;> simp_all [sameA]
  | .ifc t v, b, h => by
    cases b <;> simp only [sameA, Bool.and_eq_true, beq_iff_eq] at h <;> try (cases h; done)
    obtain ⟨rfl, h2⟩ := h
    rw [sameA_eq v _ h2]
  | .nilIfc, b, h => by cases b <;> simp_all [sameA]
  | .agg x, b, h => by
    cases b <;> simp only [sameA] at h <;> try (cases h; done)
    rw [sameL_eq x _ h]
  | .tup x, b, h => by
    cases b <;> simp only [sameA] at h <;> try (cases h; done)
    rw [sameL_eq x _ h]
  | .opq v, b, h => by cases b <;> simp_all [sameA]
theorem sameL_eq : ∀ (a b : List AV), sameL a b = true → a = b
  | [], b, h => by cases b <;> simp_all [sameL]
  | x :: l, b, h => by
    cases b <;> simp only [sameL, Bool.and_eq_true] at h <;> try (cases h; done)
    rw [sameA_eq x _ h.1, sameL_eq l _ h.2]
end
theorem sameO_eq {a b : Option AObj} (h : sameO a b = true) : a = b := by
  unfold sameO at h
  split at h
  · rfl
  · simp only [Bool.and_eq_true, beq_iff_eq] at h
    obtain ⟨⟨h1, rfl⟩, rfl⟩ := h
    rw [sameL_eq _ _ h1]
  · simp only [beq_iff_eq] at h; rw [h]
  · cases h
theorem sameKV_eq : ∀ {a b : List (Nat × Option AObj)}, sameKV a b = true → a = b
  | [], b, h => by cases b <;> simp_all [sameKV]
  | x :: l, b, h => by
    cases b <;> simp only [sameKV, Bool.and_eq_true, beq_iff_eq] at h <;> try (cases h; done)
    obtain ⟨⟨h1, h2⟩, h3⟩ := h
    rw [sameKV_eq h3, show x = _ from Prod.ext h1 (sameO_eq h2)]
theorem allI_spec {p : Nat → Done → Bool} : ∀ {ds : List Done} {j : Nat}, allI p j ds = true → ∀ (i : Nat) (d : Done), ds[i]? = some d → p (j + i) d = true
  | [], j, _, i, d, e => by simp at e
  | x :: ds, j, h, i, d, e => by
    simp only [allI, Bool.and_eq_true] at h
    cases i with
    | zero => simp at e; subst e; exact h.1
    | succ i =>
      have := allI_spec h.2 i d (by simpa using e)
      rwa [show j + (i + 1) = j + 1 + i by omega]
theorem keep_val {lo hi : Nat} {H : AHeap} : ∀ x ∈ keep lo hi H, x.2 = H.get x.1 := by
  intro x hx
  simp only [keep, List.mem_map] at hx
  obtain ⟨k, _, rfl⟩ := hx
  rfl
theorem keep_key {lo hi : Nat} {H : AHeap} {k : Nat} : k ∈ (keep lo hi H).map (·.1) ↔ (k ∈ H.log ∧ k < lo) ∨ (lo ≤ k ∧ k < hi ∧ (H.get k).isSome = true) := by
  simp only [keep, List.map_map, Function.comp_def, List.map_id', List.mem_append, List.mem_filter, decide_eq_true_eq, List.mem_range'_1]
  constructor
  · rintro (h | ⟨⟨h1, h2⟩, h3⟩)
    · exact .inl h
    · exact .inr ⟨h1, by omega, h3⟩
  · rintro (h | ⟨h1, h2, h3⟩)
    · exact .inl h
    · exact .inr ⟨⟨h1, by omega⟩, h3⟩
theorem get_setO (H : AHeap) (lg : List Nat) (k j : Nat) (x : Option AObj) : ({ H with objs := H.objs.set k x, log := lg } : AHeap).get j = if k = j then x else H.get j := by
  simp only [AHeap.get, Trie.get_set]
theorem get_putKV {lim : Nat} {g : Nat → Option AObj} (k : Nat) : ∀ (kv : List (Nat × Option AObj)) (H : AHeap), (∀ x ∈ kv, x.2 = g x.1) →
    (putKV lim kv H).get k = if k < lim ∧ k ∈ kv.map (·.1) then clip lim (g k) else H.get k
  | [], H, _ => by simp [putKV]
  | x :: l, H, h => by
    rw [putKV, get_putKV k l _ fun y hy => h y (List.mem_cons_of_mem _ hy)]
    have hx := h x List.mem_cons_self
    by_cases hm : k < lim ∧ k ∈ l.map (·.1)
    · rw [if_pos hm, if_pos ⟨hm.1, by simp only [List.map_cons, List.mem_cons]; exact .inr hm.2⟩]
    · rw [if_neg hm]
      by_cases hk : k = x.1
      · subst hk
        by_cases hl : x.1 < lim
        · rw [if_pos hl, if_pos ⟨hl, by simp⟩, get_setO, if_pos rfl, hx]
        · rw [if_neg hl, if_neg (fun e => hl e.1)]
      · rw [if_neg (c := k < lim ∧ k ∈ List.map (·.1) (x :: l))]
        · split
          · rw [get_setO, if_neg (Ne.symm hk)]
          · rfl
        · rintro ⟨e1, e2⟩
          simp only [List.map_cons, List.mem_cons] at e2
          rcases e2 with e2 | e2
          · exact hk e2
          · exact hm ⟨e1, e2⟩
theorem get_putAll {lo : Nat} {g : Nat → Option AObj} (k : Nat) : ∀ (kv : List (Nat × Option AObj)) (H : AHeap), (∀ x ∈ kv, x.2 = g x.1) →
    (putAll lo kv H).get k = if k ∈ kv.map (·.1) then g k else H.get k
  | [], H, _ => by simp [putAll]
  | x :: l, H, h => by
    rw [putAll, get_putAll k l _ fun y hy => h y (List.mem_cons_of_mem _ hy)]
    have hx := h x List.mem_cons_self
    by_cases hm : k ∈ l.map (·.1)
    · rw [if_pos hm, if_pos (by simp only [List.map_cons, List.mem_cons]; exact .inr hm)]
    · rw [if_neg hm, get_setO]
      by_cases hk : x.1 = k
      · rw [if_pos hk, if_pos (by simp [hk]), ← hk, hx]
      · rw [if_neg hk, if_neg]
        simp only [List.map_cons, List.mem_cons]
        rintro (e | e)
        · exact hk e.symm
        · exact hm e
theorem clip_some {lim : Nat} {x : Option AObj} {o : AObj} (h : clip lim x = some o) : x = some o ∧ ∀ p ∈ preOf o, p < lim := by
  cases x with
  | none => cases h
  | some y =>
    simp only [clip] at h
    split at h
    · rename_i hp
      cases h
      exact ⟨rfl, fun p hm => by simpa using List.all_eq_true.1 hp p hm⟩
    · cases h
theorem putKV_sub {lim : Nat} : ∀ (kv : List (Nat × Option AObj)) {A B : AHeap}, (∀ k o, A.get k = some o → B.get k = some o) → ∀ k o, (putKV lim kv A).get k = some o → (putKV lim kv B).get k = some o
  | [], A, B, h => h
  | x :: l, A, B, h => by
    simp only [putKV]
    refine putKV_sub l ?_
    split
    · intro k o hk
      have e1 := get_setO A A.log x.1 k (clip lim x.2)
      have e2 := get_setO B B.log x.1 k (clip lim x.2)
      rw [e1] at hk; rw [e2]
      split
      · rename_i e; rwa [if_pos e] at hk
      · rename_i e; rw [if_neg e] at hk; exact h k o hk
    · exact h
theorem maskR_sub {lim : Nat} {p : Nat → Done → Bool} : ∀ (ds : List Done) (j : Nat) {A B : AHeap}, (∀ k o, A.get k = some o → B.get k = some o) → ∀ k o, (maskR lim p j ds A).get k = some o → (maskR lim p j ds B).get k = some o
  | [], _, A, B, h => h
  | d :: ds, j, A, B, h => by
    simp only [maskR]
    refine maskR_sub ds (j + 1) ?_
    split
    · exact putKV_sub _ h
    · exact h
theorem putKV_above {lim : Nat} : ∀ (kv : List (Nat × Option AObj)) {A : AHeap} {k : Nat}, lim ≤ k → (putKV lim kv A).get k = A.get k
  | [], A, k, _ => rfl
  | x :: l, A, k, h => by
    rw [putKV, putKV_above l h]
    split
    · rw [show ({ A with objs := A.objs.set x.1 (clip lim x.2) } : AHeap).get k = _ from get_setO A A.log x.1 k _, if_neg (by omega)]
    · rfl
theorem maskR_above {lim : Nat} {p : Nat → Done → Bool} : ∀ (ds : List Done) (j : Nat) {A : AHeap} {k : Nat}, lim ≤ k → (maskR lim p j ds A).get k = A.get k
  | [], _, A, k, _ => rfl
  | d :: ds, j, A, k, h => by
    rw [maskR, maskR_above ds _ h]
    split
    · exact putKV_above _ h
    · rfl
theorem putKV_pre {lim : Nat} : ∀ (kv : List (Nat × Option AObj)) {A : AHeap}, (∀ k o, A.get k = some o → ∀ p ∈ preOf o, p < lim) → ∀ k o, (putKV lim kv A).get k = some o → ∀ p ∈ preOf o, p < lim
  | [], A, h => h
  | x :: l, A, h => by
    simp only [putKV]
    refine putKV_pre l ?_
    split
    · intro k o hk
      rw [show ({ A with objs := A.objs.set x.1 (clip lim x.2) } : AHeap).get k = _ from get_setO A A.log x.1 k _] at hk
      split at hk
      · exact (clip_some hk).2
      · exact h k o hk
    · exact h
theorem maskR_pre {lim : Nat} {p : Nat → Done → Bool} : ∀ (ds : List Done) (j : Nat) {A : AHeap}, (∀ k o, A.get k = some o → ∀ p ∈ preOf o, p < lim) → ∀ k o, (maskR lim p j ds A).get k = some o → ∀ p ∈ preOf o, p < lim
  | [], _, A, h => h
  | d :: ds, j, A, h => by
    simp only [maskR]
    refine maskR_pre ds (j + 1) ?_
    split
    · exact putKV_pre _ h
    · exact h
theorem mask_wf {M : AHeap} (hw : Wf M) {lim : Nat} (hl : M.next ≤ lim) (p : Nat → Done → Bool) (j : Nat) (ds : List Done) : Wf (atN (maskR lim p j ds M) lim) :=
  ⟨fun k hk => by
    show (maskR lim p j ds M).get k = none
    have hk' : lim ≤ k := hk
    rw [maskR_above ds j hk']
    exact hw.1 k (Nat.le_trans hl hk),
   fun k o hk => maskR_pre ds j (fun k o e q hq => Nat.lt_of_lt_of_le (hw.2 k o e q hq) hl) k o hk⟩
/-- What is so of each operation that is done. -/
structure Ok (d : Done) : Prop where
  le : d.lo ≤ d.hi
  val : ∃ g : Nat → Option AObj, ∀ x ∈ d.kv, x.2 = g x.1
  key : ∀ k ∈ d.kv.map (·.1), k < d.hi
  new : d.wr = false → ∀ k ∈ d.kv.map (·.1), d.lo ≤ k
  pre : ∀ k o, (k, some o) ∈ d.kv → ∀ p ∈ preOf o, p < d.hi
def Ch : Nat → List Done → Nat → Prop
  | a, [], n => a = n
  | a, d :: ds, n => d.lo = a ∧ Ok d ∧ Ch d.hi ds n
theorem Ch.le : ∀ {ds : List Done} {a n : Nat}, Ch a ds n → a ≤ n
  | [], a, n, h => by simp only [Ch] at h; omega
  | d :: ds, a, n, h => by
    obtain ⟨h1, h2, h3⟩ := h
    have := h3.le; have := h2.le; omega
theorem Ch.snoc : ∀ {ds : List Done} {a : Nat} {d : Done}, Ch a ds d.lo → Ok d → Ch a (ds ++ [d]) d.hi
  | [], a, d, h, hd => by simp only [Ch] at h; exact ⟨h.symm, hd, rfl⟩
  | e :: ds, a, d, h, hd => ⟨h.1, h.2.1, Ch.snoc h.2.2 hd⟩
theorem Ch.at : ∀ {ds : List Done} {a n : Nat}, Ch a ds n → ∀ (i : Nat) (d : Done), ds[i]? = some d → Ok d ∧ a ≤ d.lo ∧ d.hi ≤ n
  | [], a, n, h, i, d, e => by simp at e
  | x :: ds, a, n, h, i, d, e => by
    obtain ⟨h1, h2, h3⟩ := h
    cases i with
    | zero => simp at e; subst e; exact ⟨h2, by omega, h3.le⟩
    | succ i =>
      obtain ⟨g1, g2, g3⟩ := h3.at i d (by simpa using e)
      exact ⟨g1, by have := h2.le; omega, g3⟩
theorem Ch.lt : ∀ {ds : List Done} {a n : Nat}, Ch a ds n → ∀ (i j : Nat) (d e : Done), i < j → ds[i]? = some d → ds[j]? = some e → d.hi ≤ e.lo
  | [], a, n, h, i, j, d, e, _, hd, _ => by simp at hd
  | x :: ds, a, n, h, i, j, d, e, hij, hd, he => by
    obtain ⟨h1, h2, h3⟩ := h
    cases j with
    | zero => omega
    | succ j =>
      cases i with
      | zero => simp at hd; subst hd; exact (h3.at j e (by simpa using he)).2.1
      | succ i => exact h3.lt i j d e (by omega) (by simpa using hd) (by simpa using he)
end Go.Am
end
