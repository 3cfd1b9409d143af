/-
  Regions that draw their order, whole.
-/
import Derived.Test.YtcboaonbfgjmgaaAm26
namespace Go.Am
section
variable {E : Env} {w0 : World} {P : Program} {call : CallF} {ops : Array Oper}

theorem draw_step (hc : CallOk P E w0 call) {M H : AHeap} {T0 T : List AV} {ds : List Done} {n : Nat} (G : Good P E call ops M T0 ds T n) (hw : Wf M) (hs : Sub M H) {ρ0 : LMap} {defs : List Deferred}
    {L : Array Bool} {a : Act} {w : World} {ρ : LMap} (I : Inv E w0 ops ds n H T0 ρ0 defs L a w ρ) {i : Nat} (hr : i ∈ Region.ready .any ops L) (hlen : ds.length = ops.size)
    {K : Act → World → Prop} {Q : Exit → Act → World → Prop} (hK : ∀ a' w' ρ', Inv E w0 ops ds n H T0 ρ0 defs (L.setIfInBounds i true) a' w' ρ' → K a' w') : wpOp P ops Q i K a w := by
  obtain ⟨hi0, o, ho, hedge⟩ := mem_ready.1 hr
  have hil : i < ops.size := (Array.getElem?_eq_some_iff.1 ho).1
  have hi : isL L i = false := by
    unfold isL
    have hsz := I.size
    rw [Array.getD_eq_getD_getElem?] at hi0 ⊢
    rw [Array.getElem?_eq_getElem (by omega)] at hi0 ⊢
    exact hi0
  obtain ⟨d, hd⟩ : ∃ d, ds[i]? = some d := ⟨ds[i]'(by omega), List.getElem?_eq_getElem (by omega)⟩
  have hdo : d.o = o := by
    have := G.op i d hd
    rw [ho] at this
    exact (Option.some.inj this).symm
  subst hdo
  have ha := G.ready_anc I.closed hd hedge
  obtain ⟨p, c, ⟨Mr, hev, hnext, hkeep⟩, hview⟩ := G.view hw hs.get I.closed hd hi ha
  obtain ⟨ok, hlo, hhi⟩ := G.ch.at i d hd
  have hag := G.agree I.closed hd hi ha
  rw [← stepA_congr hag] at hev
  have hMn : H.next = M.next := hs.next
  have hfree : ∀ k, d.lo ≤ k → k < d.hi → (foldG (isL L) 0 ds H).get k = none := fun k h1 h2 => I.rep.get_none (I.fresh i d hd hi k h1 h2)
  have hu : Und (atN (maskR d.lo p 0 (ds.take c) M) d.lo) (atN (foldG (isL L) 0 ds H) d.lo) Mr.next :=
    ⟨mask_wf hw hlo p 0 _, ⟨hview, rfl, rfl⟩, fun k h1 h2 => hfree k h1 (by rw [← hnext]; exact h2)⟩
  obtain ⟨ts, t1, t2, t3, t4⟩ := stepA_trs hc.1 hu.wf hev
  have hstep := t4 _ hu.sub hu.free
  have hn2 : (aps ts (atN (foldG (isL L) 0 ds H) d.lo)).next = d.hi := by
    rw [← hnext, t1]; exact next_aps_eq ts rfl
  have hdis : ∀ (m : Nat) (e : Done), i < m → ds[m]? = some e → isL L m = true → ∀ k ∈ e.kv.map (·.1), k ∉ d.kv.map (·.1) := by
    intro m e him he hm k hk hk'
    have hnei : e.anc.testBit i = false := by
      cases hb : e.anc.testBit i with
      | false => rfl
      | true => have := I.closed m e he hm i hb; rw [hi] at this; cases this
    have hlt := G.ch.lt i m d e him hd he
    have h1 := ok.key k hk'
    obtain ⟨oke, _, _⟩ := G.ch.at m e he
    cases hew : e.wr with
    | false => have := oke.new hew k hk; omega
    | true =>
      have hdm : d.anc.testBit m = false := by
        cases hb : d.anc.testBit m with
        | false => rfl
        | true => have := G.anc_lt (i + 1) i d (by omega) hd m hb; omega
      obtain ⟨w1, w2, w3⟩ := G.wrs i m d e hd he hew (by omega) hdm (fun _ => hnei)
      have h2 := ok.new w1 k hk'
      rcases w3 him k hk with h3 | h3 <;> omega
  have hdst : ∀ (m : Nat) (e : Done), i < m → ds[m]? = some e → isL L m = true → ∀ x, d.o.dst = some x → e.o.dst ≠ some x := by
    intro m e him he hm x hx hx'
    rcases G.apart m i e d him he hd with h | h
    · have := I.closed m e he hm i h; rw [hi] at this; cases this
    · exact (Oper.apart_spec h).2.1 x hx' hx
  have hisL : isL (L.setIfInBounds i true) = fun x => x == 0 + i || isL L x := by
    funext x
    rw [isL_set (by rw [I.size]; exact hil), Nat.zero_add]
  refine stepA_sound hc hev hu hstep ho (I.rep.log_eq rfl) I.row ?_ ?_
  · intro k h1 h2
    rw [hn2] at h2
    exact I.fresh i d hd hi k h1 h2
  · intro ρ' vv w' g1 g2 g3 g4
    have hout : ∀ k, ¬ (d.lo ≤ k ∧ k < d.hi) → ρ' k = ρ k := fun k hk => g2 k (by rw [hn2]; exact hk)
    refine hK _ _ ρ' ⟨?_, I.ext.trans g1, ?_, ?_, ?_, ?_, ?_, ?_⟩
    · rw [Array.size_setIfInBounds]; exact I.size
    · intro k hk
      rw [hout k (by omega), I.out k hk]
    · intro j e he hj k h1 h2
      rw [hisL] at hj
      simp only [Nat.zero_add, Bool.or_eq_false_iff, beq_eq_false_iff_ne] at hj
      rw [hout k ?_, I.fresh j e he hj.2 k h1 h2]
      intro hk
      rcases Nat.lt_or_gt_of_ne hj.1 with h | h
      · have := G.ch.lt j i e d h he hd; omega
      · have := G.ch.lt i j d e h hd he; omega
    · rw [hisL, foldT_insert ds 0 i T0 hd (by rw [Nat.zero_add]; exact hi) (by simpa using hdst)]
      exact put_rel (relL_ext g1 _ _ I.row) g3
    · refine Rep.less g4 fun k x hk => ⟨x, ?_, .inl rfl⟩
      have hval : ∀ y ∈ d.kv, y.2 = Mr.get y.1 := by rw [← hkeep]; exact keep_val
      rw [hisL, foldG_insert hval ds 0 i H (fun j e he => (G.ch.at j e he).1) hd (by rw [Nat.zero_add]; exact hi) (by simpa using hdis)] at hk
      rw [← hk]
      have hkeys : ∀ k, k ∈ d.kv.map (·.1) ↔ (k ∈ Mr.log ∧ k < d.lo) ∨ (d.lo ≤ k ∧ k < d.hi ∧ (Mr.get k).isSome = true) := fun k => by rw [← hkeep]; exact keep_key
      have hlog : ∀ k, k ∈ Mr.log ↔ ∃ o, Tr.put k o true ∈ ts := fun k => by rw [t1, log_aps]; simp [atN]
      by_cases hkk : k ∈ d.kv.map (·.1)
      · rw [if_pos hkk, t1]
        refine aps_touched ts _ _ k ?_
        rcases (hkeys k).1 hkk with ⟨h1, _⟩ | ⟨h1, h2, h3⟩
        · obtain ⟨x, hx⟩ := (hlog k).1 h1
          exact .inr ⟨x, true, hx⟩
        · left
          rw [show (atN (foldG (isL L) 0 ds H) d.lo).get k = none from hfree k h1 h2, hu.wf.1 k h1]
      · rw [if_neg hkk]
        by_cases htk : ∃ x lg, Tr.put k x lg ∈ ts
        · obtain ⟨x, lg, hx⟩ := htk
          have hb := t2.2 k x lg hx
          have hkhi : k < d.hi := by rw [← hnext, t1]; exact hb.2
          have hklo : d.lo ≤ k := by
            refine Nat.le_of_not_lt fun h => ?_
            cases lg with
            | false => have : d.lo ≤ k := hb.1 rfl; omega
            | true => exact hkk ((hkeys k).2 (.inl ⟨(hlog k).2 ⟨x, hx⟩, h⟩))
          have hnone : Mr.get k = none := by
            cases hg : Mr.get k with
            | none => rfl
            | some y => exact (hkk ((hkeys k).2 (.inr ⟨hklo, hkhi, by rw [hg]; rfl⟩))).elim
          rw [hfree k hklo hkhi, ← hnone, t1]
          refine aps_touched ts _ _ k (.inl ?_)
          rw [show (atN (foldG (isL L) 0 ds H) d.lo).get k = none from hfree k hklo hkhi, hu.wf.1 k hklo]
        · rw [aps_untouched ts _ k fun x lg hm => htk ⟨x, lg, hm⟩]
          rfl
    · rw [put_defers]; exact I.defs
    · intro j e he hj x hx
      rw [hisL] at hj ⊢
      simp only [Nat.zero_add, Bool.or_eq_true, beq_iff_eq] at hj ⊢
      rcases hj with rfl | hj
      · rw [hd] at he; cases he
        exact .inr (ha x hx)
      · exact .inr (I.closed j e he hj x hx)

def unl (n : Nat) (L : Array Bool) : Nat := (List.range n).countP fun x => !isL L x

theorem countP_less {p q : Nat → Bool} {i : Nat} : ∀ (l : List Nat), (∀ x ∈ l, q x = true → p x = true) → i ∈ l → p i = true → q i = false → l.countP q < l.countP p
  | [], _, h, _, _ => by cases h
  | x :: l, h, hm, hp, hq => by
    have hmono : l.countP q ≤ l.countP p := List.countP_mono_left fun y hy => h y (List.mem_cons_of_mem _ hy)
    by_cases hxi : x = i
    · subst hxi
      rw [List.countP_cons_of_pos hp, List.countP_cons_of_neg (by rw [hq]; exact Bool.false_ne_true)]
      omega
    · have hm' : i ∈ l := by
        rcases List.mem_cons.1 hm with e | e
        · exact (hxi e.symm).elim
        · exact e
      have := countP_less l (fun y hy => h y (List.mem_cons_of_mem _ hy)) hm' hp hq
      have hx := h x List.mem_cons_self
      rw [List.countP_cons, List.countP_cons]
      cases hqx : q x
      · simp; omega
      · rw [hx hqx]; simp; omega

theorem unl_set {n i : Nat} {L : Array Bool} (hn : i < n) (hs : i < L.size) (h : isL L i = false) : unl n (L.setIfInBounds i true) < unl n L := by
  refine countP_less (i := i) _ ?_ (List.mem_range.2 hn) (by rw [h]; rfl) (by rw [isL_set hs]; simp)
  intro x _ hx
  rw [isL_set hs] at hx
  simp only [Bool.not_eq_true', Bool.or_eq_false_iff] at hx
  rw [hx.2]; rfl

theorem unl_zero {n : Nat} {L : Array Bool} (h : unl n L = 0) (i : Nat) (hi : i < n) : isL L i = true := by
  have := List.countP_eq_zero.1 h i (List.mem_range.2 hi)
  simpa using this

theorem all_listed {M : AHeap} {T0 T : List AV} {ds : List Done} {n : Nat} (G : Good P E call ops M T0 ds T n) (hlen : ds.length = ops.size) {L : Array Bool} (hsz : L.size = ops.size) (h : Region.ready .any ops L = []) : ∀ (N j : Nat), j < N → j < ops.size → isL L j = true
  | 0, j, h, _ => by omega
  | N + 1, j, hj, hjs => by
    cases hb : isL L j with
    | true => rfl
    | false =>
      have hm : j ∈ Region.ready .any ops L := by
        rw [mem_ready]
        refine ⟨?_, ops[j], Array.getElem?_eq_getElem hjs, fun e he hbn => ?_⟩
        · unfold isL at hb
          rw [Array.getD_eq_getD_getElem?] at hb ⊢
          rw [Array.getElem?_eq_getElem (by omega)] at hb ⊢
          exact hb
        · have hd : ds[j]? = some (ds[j]'(by omega)) := List.getElem?_eq_getElem (by omega)
          have hop := G.op j _ hd
          rw [Array.getElem?_eq_getElem hjs] at hop
          rw [Option.some.inj hop] at he
          have hon := ancOf_on _ _ _ (G.anc j _ hd) e (by simpa using he) hbn
          rw [List.length_take] at hon
          exact all_listed G hlen hsz h N e.on (by omega) (by omega)
      rw [h] at hm
      cases hm

theorem draw_any (hc : CallOk P E w0 call) {M H : AHeap} {T0 T : List AV} {ds : List Done} {n : Nat} (G : Good P E call ops M T0 ds T n) (hw : Wf M) (hs : Sub M H) (hlen : ds.length = ops.size) {ρ0 : LMap} {defs : List Deferred} {Q : Exit → Act → World → Prop}
    (hQ : ∀ L a w ρ, Inv E w0 ops ds n H T0 ρ0 defs L a w ρ → (∀ i, i < ops.size → isL L i = true) → Q .normal a w) :
    ∀ (fuel : Nat) (L : Array Bool) (a : Act) (w : World) (ρ : LMap), Inv E w0 ops ds n H T0 ρ0 defs L a w ρ → unl ops.size L ≤ fuel → wpAny P .any ops Q fuel L a w
  | 0, L, a, w, ρ, I, hf => by
    have hall := unl_zero (n := ops.size) (L := L) (by omega)
    refine ⟨?_, hQ L a w ρ I hall⟩
    rw [List.eq_nil_iff_forall_not_mem]
    intro i hi
    obtain ⟨hi0, o, ho, _⟩ := mem_ready.1 hi
    have hil : i < ops.size := (Array.getElem?_eq_some_iff.1 ho).1
    have h1 := hall i hil
    unfold isL at h1
    have hsz := I.size
    rw [Array.getD_eq_getD_getElem?, Array.getElem?_eq_getElem (by omega)] at hi0 h1
    simp only [Option.getD_some] at hi0 h1
    rw [h1] at hi0; cases hi0
  | fuel + 1, L, a, w, ρ, I, hf => by
    refine ⟨fun hr => hQ L a w ρ I fun i hi => all_listed G hlen I.size hr (i + 1) i (by omega) hi, fun i hi => ?_⟩
    refine draw_step hc G hw hs I hi hlen ?_
    intro a' w' ρ' I'
    refine draw_any hc G hw hs hlen hQ fuel _ a' w' ρ' I' ?_
    obtain ⟨hi0, o, ho, _⟩ := mem_ready.1 hi
    have hil : i < ops.size := (Array.getElem?_eq_some_iff.1 ho).1
    have hsz := I.size
    have hb : isL L i = false := by
      unfold isL
      rw [Array.getD_eq_getD_getElem?, Array.getElem?_eq_getElem (by omega)] at hi0 ⊢
      exact hi0
    have := unl_set (n := ops.size) hil (by omega) hb
    omega

theorem draw_sound (hm : P.follows .mixedOrders = true) (hc : CallOk P E w0 call) : DrawOk P E w0 call := by
  intro ops T0 M H T' M' H' hM hu hH id w ρ a Q R hT hf hQ
  obtain ⟨ds, n, G, hlen, hM', hle, hrun⟩ := drawA_good hc.1 hu.wf ops.toList [] T0 M.next T' M' (Good.nil M T0) rfl hM
  have hn : M'.next = n := by rw [hM']
  have hH2 := hrun H hu.sub.get (by rw [← hn]; exact hu.free)
  have hMn : H.next = M.next := hu.sub.next
  rw [hMn, hH2] at hH
  cases hH
  refine wp_region_any hm ?_
  have hL : ∀ m, isL (Array.replicate ops.size false) m = false := by
    intro m
    unfold isL
    rw [Array.getD_eq_getD_getElem?, Array.getElem?_replicate]
    split <;> rfl
  have hf' : ∀ k, M.next ≤ k → k < n → ρ k = none := fun k h1 h2 => hf k (by rw [hMn]; exact h1) h2
  refine draw_any hc G hu.wf hu.sub hlen (ρ0 := ρ) (defs := a.defers) ?_ ops.size _ a _ ρ ?_ ?_
  · intro L a' w' ρ' I hall
    have hD : ∀ m, 0 ≤ m → m < 0 + ds.length → isL L m = (fun _ => true) m := fun m _ h => hall m (by omega)
    have hrow := I.row
    rw [foldT_congr ds 0 T0 hD, ← G.row] at hrow
    have hrep := I.rep
    rw [foldG_congr ds 0 H hD, foldG_all] at hrep
    exact hQ a' w' ⟨ρ', I.ext, I.out, hrow, hrep.log_eq rfl, by rw [hMn]; exact hle, I.defs⟩
  · refine ⟨by simp, Ext.refl _, fun _ _ => rfl, ?_, ?_, ?_, rfl, ?_⟩
    · intro i d hd _ k h1 h2
      obtain ⟨ok, h3, h4⟩ := G.ch.at i d hd
      exact hf' k (by omega) (by omega)
    · rw [foldT_none ds 0 T0 fun m _ => hL m]; exact hT
    · rw [foldG_none ds 0 H fun m _ => hL m]; exact R.heap_eq rfl
    · intro i d hd hi
      rw [hL i] at hi; cases hi
  · unfold unl
    refine Nat.le_trans List.countP_le_length ?_
    rw [List.length_range]
    exact Nat.le_refl _
end

/-- No function is told apart. -/
def noOv : OvF := fun _ _ => none
theorem noOv_ok {P : Program} {E : Env} {w0 : World} : CallOk P E w0 (ovCall noOv) :=
  ⟨fun f args M v M' _ h => by simp [ovCall, noOv] at h, fun f args M H v M' H' h => by simp [ovCall, noOv] at h⟩

/-- CALLS, WHOLE: what the abstract machine tells of a call, the model does. -/
theorem callFA_ok {P : Program} {E : Env} {w0 : World} (hm : P.follows .mixedOrders = true) {ov : OvF} (hov : CallOk P E w0 (ovCall ov)) (n : Nat) : CallOk P E w0 (callFA P E ov n) :=
  callFA_sound (fun _ hc => draw_sound hm hc) hov n

/-- A pure function's answers, told by its arguments: the heap stays. -/
def pureOv (tab : FuncId → List AV → Option AV) : OvF := fun f args => (tab f args).map fun v H => some (v, H)

theorem pureOv_ok {P : Program} {E : Env} {w0 : World} {tab : FuncId → List AV → Option AV}
    (h : ∀ f args v, tab f args = some v → ∀ (W : World) (ρ : LMap) (vargs : Array Value), relL ρ args vargs.toList →
      Calls P f vargs W fun e w => ∃ u, e = .returned u ∧ rel ρ v u ∧ W.heap.size ≤ w.heap.size ∧ w.os = W.os ∧ w.output = W.output ∧ ∀ b, b < W.heap.size → w.heap[b]? = W.heap[b]?) : CallOk P E w0 (ovCall (pureOv tab)) := by
  have key : ∀ f args H v H', ovCall (pureOv tab) f args H = some (v, H') → tab f args = some v ∧ H' = H := by
    intro f args H v H' e
    unfold ovCall pureOv at e
    cases ht : tab f args with
    | none => rw [ht] at e; cases e
    | some x => rw [ht] at e; cases e; exact ⟨rfl, rfl⟩
  refine ⟨fun f args M v M' hw e => ?_, fun f args M H v M' H' e hu e' w ρ vargs R hr hf => ?_⟩
  · obtain ⟨h1, rfl⟩ := key _ _ _ _ _ e
    exact ⟨[], rfl, Tame.nil _, hw, fun H _ _ => by unfold ovCall pureOv; rw [h1]; rfl⟩
  · obtain ⟨h1, rfl⟩ := key _ _ _ _ _ e'
    refine Calls.mono (h f args v h1 w ρ vargs hr) ?_
    rintro x w' ⟨u, rfl, g1, g2, g3, g4, g5⟩
    refine ⟨u, ρ, rfl, Ext.refl _, fun _ _ => rfl, g1, ?_⟩
    refine ⟨Nat.le_trans R.size g2, fun b hb => ?_, R.env, ⟨g3.trans R.side.1, g4.trans R.side.2⟩, fun k o hk => ?_, R.apart, R.pres, R.kin⟩
    · rw [g5 b (Nat.lt_of_lt_of_le hb R.size)]; exact R.old b hb
    · obtain ⟨l, k1, k2, k3⟩ := R.objs k o hk
      exact ⟨l, k1, k2, objOk_heap k3 (g5 _ (objOk_lt k3))⟩
end Go.Am
