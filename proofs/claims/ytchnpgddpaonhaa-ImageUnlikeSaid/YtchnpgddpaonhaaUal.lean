/-
  Texts Am32, as far as they are used.
-/
import Derived.Test.YtchnpgddpaonhaaUak
section
namespace Go.Am
set_option linter.unusedVariables false
section heap
theorem get_set' (H : AHeap) (k : Nat) (o : AObj) (j : Nat) : (H.set k o).get j = if k = j then some o else H.get j := by
  simp only [AHeap.set, AHeap.get, Trie.get_set]
theorem get_kill (H : AHeap) (k j : Nat) : (H.kill k).get j = if k = j then none else H.get j := by
  simp only [AHeap.kill, AHeap.get, Trie.get_set]
theorem get_new (H : AHeap) (o : AObj) (j : Nat) : (H.new o).get j = if H.next = j then some o else H.get j := by
  simp only [AHeap.new, AHeap.get, Trie.get_set]
theorem get_killAll : ∀ (ps : List Nat) (H : AHeap) (j : Nat), (H.killAll ps).get j = if j ∈ ps then none else H.get j
  | [], H, j => by simp [AHeap.killAll]
  | p :: ps, H, j => by
    simp only [AHeap.killAll, get_killAll ps, get_kill, List.mem_cons]
    by_cases h : j ∈ ps
    · simp [h]
    · by_cases h2 : p = j
      · subst h2; simp
      · simp [h, h2, Ne.symm h2]
theorem next_set (H : AHeap) (k : Nat) (o : AObj) : (H.set k o).next = H.next := rfl
theorem next_new (H : AHeap) (o : AObj) : (H.new o).next = H.next + 1 := rfl
theorem next_kill (H : AHeap) (k : Nat) : (H.kill k).next = H.next := rfl
theorem next_killAll : ∀ (ps : List Nat) (H : AHeap), (H.killAll ps).next = H.next
  | [], H => rfl
  | p :: ps, H => by simp only [AHeap.killAll, next_killAll ps, next_kill]
theorem get_newCells (H : AHeap) (cs : List AV) (j : Nat) : (newCells H cs).get j = if H.next = j then some (.cells cs true []) else H.get j := get_new ..
theorem loadRange_new (E : Env) {H : AHeap} {k : Nat} {cs : List AV} {w : Bool} {p : List Nat} (h : H.get k = some (.cells cs w p)) (i n : Nat) : loadRange E H (.new k) i n = if i + n ≤ cs.length then some ((cs.drop i).take n) else none := by
  simp only [loadRange, cellsOf, h]
theorem rangeOr_new (E : Env) {H : AHeap} {k : Nat} {cs : List AV} {w : Bool} {p : List Nat} (h : H.get k = some (.cells cs w p)) (i n : Nat) (hl : i + n ≤ cs.length) : rangeOr E H (.new k) i n = some ((cs.drop i).take n) := by
  unfold rangeOr
  split
  · rename_i e; subst e; simp
  · rw [loadRange_new E h, if_pos hl]
theorem storeRange_new {H : AHeap} {k : Nat} {cs : List AV} {p : List Nat} (h : H.get k = some (.cells cs true p)) (i : Nat) (v : AV) (vs : List AV) (hl : i + (vs.length + 1) ≤ cs.length) (hs : (v :: vs).all scalar = true) :
    storeRange H (.new k) i (v :: vs) = some ((H.killAll p).set k (.cells (setMany cs i (v :: vs)) true [])) := by
  simp only [storeRange, h]
  rw [if_pos]
  simp only [Bool.and_eq_true, decide_eq_true_eq]
  exact ⟨hl, hs⟩
end heap
section rules
variable {P : Program} {E : Env} {w0 : World}
@[simp] theorem optW_some {α : Type} (x : α) (Q : α → Prop) : optW (some x) Q = Q x := rfl
@[simp] theorem optW_none {α : Type} (Q : α → Prop) : optW (none : Option α) Q = False := rfl
@[simp] theorem opt2W_some (v : AV) (H : AHeap) (K : AV → AHeap → Prop) : opt2W (some (v, H)) K = K v H := rfl
@[simp] theorem condW_true (x y : Prop) : condW (.bool true) x y = x := rfl
@[simp] theorem condW_false (x y : Prop) : condW (.bool false) x y = y := rfl
@[simp] theorem valG_true (r : Option AV) : valG (some true) r = r := rfl
@[simp] theorem valG_false (r : Option AV) : valG (some false) r = some undefA := rfl
@[simp] theorem wantsA_bool (b w : Bool) : wantsA (.bool b) w = some (b == w) := rfl
@[simp] theorem guardW_true (s : (AV → AHeap → Prop) → Prop) (H : AHeap) (Q : AV → AHeap → Prop) : guardW (some true) s H Q = s Q := rfl
@[simp] theorem guardW_false (s : (AV → AHeap → Prop) → Prop) (H : AHeap) (Q : AV → AHeap → Prop) : guardW (some false) s H Q = Q undefA H := rfl
@[simp] theorem pickV_bool (t : Bool) (a b : AV) : pickV (.bool t) a b = some (if t then a else b) := rfl
@[simp] theorem nilV_ptr (o : Id) (i : Nat) : nilV (.ptr o i) = some (.ptr o i) := rfl
@[simp] theorem nilV_ifc (t : TypeId) (v : AV) : nilV (.ifc t v) = some (.ifc t v) := rfl
@[simp] theorem nilV_fn (f : FuncId) (a b : List AV) : nilV (.fn (.func f) a b) = some (.fn (.func f) a b) := rfl
@[simp] theorem extractV_tup (vs : List AV) (i : Nat) : extractV (.tup vs) i = vs[i]? := rfl
@[simp] theorem withW_eq (v : AV) (H : AHeap) (K : AV → AHeap → Prop) : withW v H K = K v H := rfl
@[simp] theorem cellW_ptr (H : AHeap) (t : TypeId) (o : Id) (i : Nat) (K : AV → Prop) : cellW P E H t (.ptr o i) K = optW (loadVarA P E H t o i) K := rfl
@[simp] theorem resF_call (F : FW) (f : FuncId) (a : List AV) (H : AHeap) (K : AV → AHeap → Prop) : resF F (some (.call f a H)) K = F f a H K := rfl
@[simp] theorem bin_add (t : TypeId) (k : IntKind) (a b : Int) : binA P .add t (.int k a) (.int k b) = some (.int k (k.wrap (a + b))) := if_pos rfl
@[simp] theorem bin_sub (t : TypeId) (k : IntKind) (a b : Int) : binA P .sub t (.int k a) (.int k b) = some (.int k (k.wrap (a - b))) := if_pos rfl
@[simp] theorem bin_mul (t : TypeId) (k : IntKind) (a b : Int) : binA P .mul t (.int k a) (.int k b) = some (.int k (k.wrap (a * b))) := if_pos rfl
@[simp] theorem bin_lss (t : TypeId) (k : IntKind) (a b : Int) : binA P .lss t (.int k a) (.int k b) = some (.bool (a < b)) := if_pos rfl
@[simp] theorem bin_leq (t : TypeId) (k : IntKind) (a b : Int) : binA P .leq t (.int k a) (.int k b) = some (.bool (a ≤ b)) := if_pos rfl
@[simp] theorem bin_gtr (t : TypeId) (k : IntKind) (a b : Int) : binA P .gtr t (.int k a) (.int k b) = some (.bool (a > b)) := if_pos rfl
@[simp] theorem bin_geq (t : TypeId) (k : IntKind) (a b : Int) : binA P .geq t (.int k a) (.int k b) = some (.bool (a ≥ b)) := if_pos rfl
@[simp] theorem un_not (b : Bool) : unA .not (.bool b) = some (.bool !b) := rfl
end rules
section wraps
theorem wrap_i64 {n : Int} (h0 : -9223372036854775808 ≤ n) (h1 : n ≤ 9223372036854775807) : IntKind.i64.wrap n = n := by
  show (if (true && decide ((2 : Int) ^ 63 ≤ n % 2 ^ 64)) = true then n % 2 ^ 64 - 2 ^ 64 else n % 2 ^ 64) = n
  by_cases h : (2 : Int) ^ 63 ≤ n % 2 ^ 64
  · refine Eq.trans (if_pos (decide_eq_true h)) ?_
    omega
  · refine Eq.trans (if_neg (fun e => h (of_decide_eq_true e))) ?_
    omega
end wraps
/-- What is known of every heap that is come to. -/
structure Fine (H : AHeap) : Prop where
  above : ∀ k, H.next ≤ k → H.get k = none
  kin : ∀ k p o op, H.get k = some o → p ∈ preOf o → H.get p = some op → wrOf op = false
  self : ∀ k o p, H.get k = some o → p ∈ preOf o → p ≠ k
  below : ∀ k o p, H.get k = some o → p ∈ preOf o → p < H.next
section fine
variable {P : Program} {E : Env} {w0 : World}
theorem Rep.fine {H : AHeap} {w : World} {ρ : LMap} (R : Rep E w0 H w ρ) (hf : FreshA ρ H) : Fine H := by
  refine ⟨fun k hk => ?_, fun k p o op hk hp ho => ?_, fun k o p hk hp => ((R.pres k o hk) p hp).1, fun k o p hk hp => ?_⟩
  · cases hg : H.get k with
    | none => rfl
    | some o =>
      obtain ⟨l, h1, _⟩ := R.objs k o hg
      rw [hf k hk] at h1; cases h1
  · obtain ⟨l, h1, _⟩ := R.objs k o hk
    obtain ⟨lp, h2, _⟩ := R.objs p op ho
    exact (R.kin k p o op l lp hk hp ho h1 h2).1
  · refine Nat.lt_of_not_le fun hle => ?_
    have := ((R.pres k o hk) p hp).2
    rw [hf p hle] at this
    cases this
theorem Fine.lt {H : AHeap} (F : Fine H) {k : Nat} {o : AObj} (h : H.get k = some o) : k < H.next := by
  refine Nat.lt_of_not_le fun hk => ?_
  rw [F.above k hk] at h; cases h
/-- All that lives stays, but for one object. -/
def But (b : Nat) (H H' : AHeap) : Prop := ∀ k all pre, k ≠ b → H.get k = some (.cells all true pre) → H'.get k = some (.cells all true pre)
def Stays (H H' : AHeap) : Prop := ∀ k all pre, H.get k = some (.cells all true pre) → H'.get k = some (.cells all true pre)
theorem Fine.store {H : AHeap} (F : Fine H) {b : Nat} {all : List AV} {pre : List Nat} (h : H.get b = some (.cells all true pre)) {n : Nat} {x : AV} (hn : n < all.length) (hx : scalar x = true) :
    ∃ H', storeRange H (.new b) n [x] = some H' ∧ H'.get b = some (.cells (all.set n x) true []) ∧ But b H H' ∧ H'.next = H.next ∧ Fine H' := by
  have hg : ∀ j, ((H.killAll pre).set b (.cells (all.set n x) true [])).get j = if b = j then some (.cells (all.set n x) true []) else if j ∈ pre then none else H.get j := by
    intro j
    rw [get_set', get_killAll]
  refine ⟨(H.killAll pre).set b (.cells (all.set n x) true []), storeRange_new h n x [] (by simp; omega) (by simpa using hx), ?_, ?_, ?_, ?_⟩
  · exact (hg b).trans (if_pos rfl)
  · intro k all' pre' hk hgk
    refine (hg k).trans ?_
    rw [if_neg (Ne.symm hk), if_neg]
    · exact hgk
    · intro hp
      have := F.kin b k _ _ h hp hgk
      cases this
  · rw [next_set, next_killAll]
  · have key : ∀ j o, ((H.killAll pre).set b (.cells (all.set n x) true [])).get j = some o → (b = j ∧ o = .cells (all.set n x) true []) ∨ (b ≠ j ∧ H.get j = some o) := by
      intro j o hj
      rw [hg] at hj
      split at hj
      · rename_i e; cases hj; exact .inl ⟨e, rfl⟩
      · rename_i e
        split at hj
        · cases hj
        · exact .inr ⟨e, hj⟩
    have hnx : ((H.killAll pre).set b (.cells (all.set n x) true [])).next = H.next := by rw [next_set, next_killAll]
    refine ⟨?_, ?_, ?_, ?_⟩
    · intro k hk
      rw [hnx] at hk
      have hkb : b ≠ k := by have := F.lt h; omega
      refine (hg k).trans ?_
      rw [if_neg hkb, F.above k hk]
      split <;> rfl
    · intro k p o op hk hp ho
      rcases key k o hk with ⟨rfl, rfl⟩ | ⟨_, hk⟩
      · cases hp
      · rcases key p op ho with ⟨rfl, rfl⟩ | ⟨_, ho⟩
        · have := F.kin k _ o _ hk hp h
          cases this
        · exact F.kin k p o op hk hp ho
    · intro k o p hk hp
      rcases key k o hk with ⟨rfl, rfl⟩ | ⟨_, hk⟩
      · cases hp
      · exact F.self k o p hk hp
    · intro k o p hk hp
      rw [hnx]
      rcases key k o hk with ⟨rfl, rfl⟩ | ⟨_, hk⟩
      · cases hp
      · exact F.below k o p hk hp
theorem Fine.newCells {H : AHeap} (F : Fine H) (cs : List AV) : (newCells H cs).get H.next = some (.cells cs true []) ∧ Stays H (newCells H cs) ∧ (newCells H cs).next = H.next + 1 ∧ Fine (newCells H cs) := by
  have hn : (Am.newCells H cs).next = H.next + 1 := rfl
  have hg := get_newCells H cs
  refine ⟨by rw [get_newCells, if_pos rfl], ?_, rfl, ?_, ?_, ?_, ?_⟩
  · intro k all pre h
    have := F.lt h
    rw [get_newCells, if_neg (by omega)]
    exact h
  · intro k hk
    rw [hn] at hk
    rw [hg, if_neg (by omega)]
    exact F.above k (by omega)
  · intro k p o op hk hp ho
    rw [hg] at hk ho
    split at hk
    · cases hk; cases hp
    · split at ho
      · rename_i h1 h2
        have := F.below k o p hk hp
        omega
      · exact F.kin k p o op hk hp ho
  · intro k o p hk hp
    rw [hg] at hk
    split at hk
    · cases hk; cases hp
    · exact F.self k o p hk hp
  · intro k o p hk hp
    rw [hn]
    rw [hg] at hk
    split at hk
    · cases hk; cases hp
    · have := F.below k o p hk hp; omega
theorem fnW_after {f : FuncId} {args : List AV} {H : AHeap} {Q : AV → AHeap → Prop} (h : FnW P E w0 f args H fun v H' => Fine H' → H.next ≤ H'.next → Q v H') : FnW P E w0 f args H Q := by
  intro w ρ vargs R hf hr
  refine Calls.mono (h w ρ vargs R hf hr) ?_
  rintro e w' ⟨u, ρ', v, H', h1, h2, h3, h4, h5⟩
  exact ⟨u, ρ', v, H', h1, h2 (h5.fine (hf.step h3)) h3.2.1, h3, h4, h5⟩
/-- A contract that is used. -/
theorem FnW.use {f : FuncId} {args : List AV} {H : AHeap} {Q K : AV → AHeap → Prop} (h : FnW P E w0 f args H Q) (hk : ∀ v H', Q v H' → Fine H' → H.next ≤ H'.next → K v H') : FnW P E w0 f args H K :=
  fnW_after (h.mono fun v H' hq => hk v H' hq)
/-- A pure function's answer, by one run from nothing; it holds no places. -/
theorem fnW_pure (hm : P.follows .mixedOrders = true) {n : Nat} {f : FuncId} {args : List AV} {v : AV} {H1 : AHeap} (h : callFA P (fun _ => none) noOv n f args AHeap.empty = some (v, H1))
    (hargs : ∀ ρ vs, relL ρ args vs → relL (fun _ => none) args vs) (hv : ∀ ρ ρ' u, rel ρ v u → rel ρ' v u) {H : AHeap} : FnW P E w0 f args H fun v' H' => v' = v ∧ H' = H := by
  intro w ρ vargs R hf hr
  refine Calls.mono (calls_of_run hm h noOv_ok (W := w) (fun b cs e => by cases e) (hargs _ _ hr)) ?_
  rintro e w' ⟨u, ρ', rfl, g1, g2, g3, g4, g5⟩
  refine ⟨u, ρ, v, H, rfl, ⟨rfl, rfl⟩, Nx.refl _ _, hv _ _ _ g1, ?_⟩
  refine ⟨Nat.le_trans R.size g2, fun b hb => ?_, R.env, ⟨g3.trans R.side.1, g4.trans R.side.2⟩, fun k o hk => ?_, R.apart, R.pres, R.kin⟩
  · rw [g5 b (Nat.lt_of_lt_of_le hb R.size)]; exact R.old b hb
  · obtain ⟨l, k1, k2, k3⟩ := R.objs k o hk
    exact ⟨l, k1, k2, objOk_heap k3 (g5 _ (objOk_lt k3))⟩
end fine
end Go.Am
end
