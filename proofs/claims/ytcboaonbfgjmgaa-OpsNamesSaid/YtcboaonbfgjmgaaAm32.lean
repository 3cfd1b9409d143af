/-
  Plain laws of the heap, of values and of operations, for what is to be shown.
-/
import Derived.Test.YtcboaonbfgjmgaaAm31
namespace Go.Am
set_option linter.unusedVariables false

section heap
theorem get_set' (H : AHeap) (k : Nat) (o : AObj) (j : Nat) : (H.set k o).get j = if k = j then some o else H.get j := by
  simp only [AHeap.set, AHeap.get, Trie.get_set]
theorem get_kill (H : AHeap) (k j : Nat) : (H.kill k).get j = if k = j then none else H.get j := by
  simp only [AHeap.kill, AHeap.get, Trie.get_set]
theorem get_new (H : AHeap) (o : AObj) (j : Nat) : (H.new o).get j = if H.next = j then some o else H.get j := by
  simp only [AHeap.new, AHeap.get, Trie.get_set]
theorem get_killAll : ∀ (ps : List Nat) (H : AHeap) (j : Nat), (H.killAll ps).get j = if j ∈ ps then none else H.get j
  | [], H, j => by simp [AHeap.killAll]
  | p :: ps, H, j => by
    simp only [AHeap.killAll, get_killAll ps, get_kill, List.mem_cons]
    by_cases h : j ∈ ps
    · simp [h]
    · by_cases h2 : p = j
      · subst h2; simp
      · simp [h, h2, Ne.symm h2]
theorem next_set (H : AHeap) (k : Nat) (o : AObj) : (H.set k o).next = H.next := rfl
theorem next_new (H : AHeap) (o : AObj) : (H.new o).next = H.next + 1 := rfl
theorem next_kill (H : AHeap) (k : Nat) : (H.kill k).next = H.next := rfl
theorem next_killAll : ∀ (ps : List Nat) (H : AHeap), (H.killAll ps).next = H.next
  | [], H => rfl
  | p :: ps, H => by simp only [AHeap.killAll, next_killAll ps, next_kill]
theorem get_newCells (H : AHeap) (cs : List AV) (j : Nat) : (newCells H cs).get j = if H.next = j then some (.cells cs true []) else H.get j := get_new ..
theorem next_newCells (H : AHeap) (cs : List AV) : (newCells H cs).next = H.next + 1 := rfl

theorem loadCell_new (E : Env) {H : AHeap} {k : Nat} {cs : List AV} {w : Bool} {p : List Nat} (h : H.get k = some (.cells cs w p)) (i : Nat) : loadCell E H (.new k) i = cs[i]? := by
  simp only [loadCell, cellsOf, h]
theorem loadRange_new (E : Env) {H : AHeap} {k : Nat} {cs : List AV} {w : Bool} {p : List Nat} (h : H.get k = some (.cells cs w p)) (i n : Nat) : loadRange E H (.new k) i n = if i + n ≤ cs.length then some ((cs.drop i).take n) else none := by
  simp only [loadRange, cellsOf, h]
theorem storeRange_new {H : AHeap} {k : Nat} {cs : List AV} {p : List Nat} (h : H.get k = some (.cells cs true p)) (i : Nat) (v : AV) (vs : List AV) (hl : i + (vs.length + 1) ≤ cs.length) (hs : (v :: vs).all scalar = true) :
    storeRange H (.new k) i (v :: vs) = some ((H.killAll p).set k (.cells (setMany cs i (v :: vs)) true [])) := by
  simp only [storeRange, h]
  rw [if_pos]
  simp only [Bool.and_eq_true, decide_eq_true_eq]
  exact ⟨hl, hs⟩
end heap

section rules
variable {P : Program} {E : Env} {w0 : World}
@[simp] theorem optW_some {α : Type} (x : α) (Q : α → Prop) : optW (some x) Q = Q x := rfl
@[simp] theorem optW_none {α : Type} (Q : α → Prop) : optW (none : Option α) Q = False := rfl
@[simp] theorem opt2W_some (v : AV) (H : AHeap) (K : AV → AHeap → Prop) : opt2W (some (v, H)) K = K v H := rfl
@[simp] theorem condW_true (x y : Prop) : condW (.bool true) x y = x := rfl
@[simp] theorem condW_false (x y : Prop) : condW (.bool false) x y = y := rfl
theorem condW_bool (b : Bool) (x y : Prop) : condW (.bool b) x y ↔ (b = true → x) ∧ (b = false → y) := by cases b <;> simp
@[simp] theorem valG_true (r : Option AV) : valG (some true) r = r := rfl
@[simp] theorem valG_false (r : Option AV) : valG (some false) r = some undefA := rfl
@[simp] theorem wantsA_bool (b w : Bool) : wantsA (.bool b) w = some (b == w) := rfl
@[simp] theorem guardW_true (s : (AV → AHeap → Prop) → Prop) (H : AHeap) (Q : AV → AHeap → Prop) : guardW (some true) s H Q = s Q := rfl
@[simp] theorem guardW_false (s : (AV → AHeap → Prop) → Prop) (H : AHeap) (Q : AV → AHeap → Prop) : guardW (some false) s H Q = Q undefA H := rfl
@[simp] theorem pickV_bool (t : Bool) (a b : AV) : pickV (.bool t) a b = some (if t then a else b) := rfl
@[simp] theorem nilV_ptr (o : Id) (i : Nat) : nilV (.ptr o i) = some (.ptr o i) := rfl
@[simp] theorem nilV_ifc (t : TypeId) (v : AV) : nilV (.ifc t v) = some (.ifc t v) := rfl
@[simp] theorem nilV_fn (f : FuncId) (a b : List AV) : nilV (.fn (.func f) a b) = some (.fn (.func f) a b) := rfl
@[simp] theorem extractV_tup (vs : List AV) (i : Nat) : extractV (.tup vs) i = vs[i]? := rfl
@[simp] theorem withW_eq (v : AV) (H : AHeap) (K : AV → AHeap → Prop) : withW v H K = K v H := rfl
@[simp] theorem cellW_ptr (H : AHeap) (t : TypeId) (o : Id) (i : Nat) (K : AV → Prop) : cellW P E H t (.ptr o i) K = optW (loadVarA P E H t o i) K := rfl
@[simp] theorem resF_call (F : FW) (f : FuncId) (a : List AV) (H : AHeap) (K : AV → AHeap → Prop) : resF F (some (.call f a H)) K = F f a H K := rfl

@[simp] theorem bin_add (t : TypeId) (k : IntKind) (a b : Int) : binA P .add t (.int k a) (.int k b) = some (.int k (k.wrap (a + b))) := if_pos rfl
@[simp] theorem bin_sub (t : TypeId) (k : IntKind) (a b : Int) : binA P .sub t (.int k a) (.int k b) = some (.int k (k.wrap (a - b))) := if_pos rfl
@[simp] theorem bin_mul (t : TypeId) (k : IntKind) (a b : Int) : binA P .mul t (.int k a) (.int k b) = some (.int k (k.wrap (a * b))) := if_pos rfl
theorem bin_quo (t : TypeId) (k : IntKind) (a b : Int) : binA P .quo t (.int k a) (.int k b) = if b = 0 then none else some (.int k (k.wrap (a.tdiv b))) := if_pos rfl
theorem bin_rem (t : TypeId) (k : IntKind) (a b : Int) : binA P .rem t (.int k a) (.int k b) = if b = 0 then none else some (.int k (a.tmod b)) := if_pos rfl
@[simp] theorem bin_lss (t : TypeId) (k : IntKind) (a b : Int) : binA P .lss t (.int k a) (.int k b) = some (.bool (a < b)) := if_pos rfl
@[simp] theorem bin_leq (t : TypeId) (k : IntKind) (a b : Int) : binA P .leq t (.int k a) (.int k b) = some (.bool (a ≤ b)) := if_pos rfl
@[simp] theorem bin_gtr (t : TypeId) (k : IntKind) (a b : Int) : binA P .gtr t (.int k a) (.int k b) = some (.bool (a > b)) := if_pos rfl
@[simp] theorem bin_geq (t : TypeId) (k : IntKind) (a b : Int) : binA P .geq t (.int k a) (.int k b) = some (.bool (a ≥ b)) := if_pos rfl
@[simp] theorem un_not (b : Bool) : unA .not (.bool b) = some (.bool !b) := rfl

theorem eqv_int {t : TypeId} {k : IntKind} (h : P.underlying t = some (.int k)) (x y : Operand) (a b : Int) : binV P .eql t x y (.int k a) (.int k b) = some (.bool (a == b)) := by simp [binV, guardOkA, binA, intBinA]
theorem nev_int {t : TypeId} {k : IntKind} (h : P.underlying t = some (.int k)) (x y : Operand) (a b : Int) : binV P .neq t x y (.int k a) (.int k b) = some (.bool (a != b)) := by simp [binV, guardOkA, binA, intBinA]
theorem eqv_str {t : TypeId} (x y : Operand) (a b : List UInt8) : binV P .eql t x y (.str a) (.str b) = some (.bool (a == b)) := rfl
theorem nev_str {t : TypeId} (x y : Operand) (a b : List UInt8) : binV P .neq t x y (.str a) (.str b) = some (.bool !(a == b)) := rfl
theorem eqv_bool {t : TypeId} (h : P.underlying t = some .bool) (x y : Operand) (a b : Bool) : binV P .eql t x y (.bool a) (.bool b) = some (.bool (a == b)) := by
  simp only [binV, guardOkA, binA, Op.maxDepth, eqA, h]; rfl
theorem nev_bool {t : TypeId} (h : P.underlying t = some .bool) (x y : Operand) (a b : Bool) : binV P .neq t x y (.bool a) (.bool b) = some (.bool !(a == b)) := by
  simp only [binV, guardOkA, binA, Op.maxDepth, eqA, h]; rfl
end rules

section wraps
theorem wrap_i64 {n : Int} (h0 : -9223372036854775808 ≤ n) (h1 : n ≤ 9223372036854775807) : IntKind.i64.wrap n = n := by
  show (if (true && decide ((2 : Int) ^ 63 ≤ n % 2 ^ 64)) = true then n % 2 ^ 64 - 2 ^ 64 else n % 2 ^ 64) = n
  by_cases h : (2 : Int) ^ 63 ≤ n % 2 ^ 64
  · refine Eq.trans (if_pos (decide_eq_true h)) ?_
    omega
  · refine Eq.trans (if_neg (fun e => h (of_decide_eq_true e))) ?_
    omega
theorem wrap_u64 {n : Int} (h0 : 0 ≤ n) (h1 : n ≤ 18446744073709551615) : IntKind.u64.wrap n = n := by
  simp only [IntKind.wrap, IntKind.bits, IntKind.signed]; simp; omega
theorem wrap_u8 {n : Int} (h0 : 0 ≤ n) (h1 : n ≤ 255) : IntKind.u8.wrap n = n := by
  simp only [IntKind.wrap, IntKind.bits, IntKind.signed]; simp; omega
end wraps

/-- What is known of every heap that is come to. -/
structure Fine (H : AHeap) : Prop where
  above : ∀ k, H.next ≤ k → H.get k = none
  kin : ∀ k p o op, H.get k = some o → p ∈ preOf o → H.get p = some op → wrOf op = false
  self : ∀ k o p, H.get k = some o → p ∈ preOf o → p ≠ k

section fine
variable {P : Program} {E : Env} {w0 : World}
theorem Rep.fine {H : AHeap} {w : World} {ρ : LMap} (R : Rep E w0 H w ρ) (hf : FreshA ρ H) : Fine H := by
  refine ⟨fun k hk => ?_, fun k p o op hk hp ho => ?_, fun k o p hk hp => ((R.pres k o hk) p hp).1⟩
  · cases hg : H.get k with
    | none => rfl
    | some o =>
      obtain ⟨l, h1, _⟩ := R.objs k o hg
      rw [hf k hk] at h1; cases h1
  · obtain ⟨l, h1, _⟩ := R.objs k o hk
    obtain ⟨lp, h2, _⟩ := R.objs p op ho
    exact (R.kin k p o op l lp hk hp ho h1 h2).1

/-- A call may be looked at over heaps that are fine. -/
theorem fnW_fine {f : FuncId} {args : List AV} {H : AHeap} {Q : AV → AHeap → Prop} (h : Fine H → FnW P E w0 f args H Q) : FnW P E w0 f args H Q :=
  fun w ρ vargs R hf hr => h (R.fine hf) w ρ vargs R hf hr
theorem fnW_after {f : FuncId} {args : List AV} {H : AHeap} {Q : AV → AHeap → Prop} (h : FnW P E w0 f args H fun v H' => Fine H' → H.next ≤ H'.next → Q v H') : FnW P E w0 f args H Q := by
  intro w ρ vargs R hf hr
  refine Calls.mono (h w ρ vargs R hf hr) ?_
  rintro e w' ⟨u, ρ', v, H', h1, h2, h3, h4, h5⟩
  exact ⟨u, ρ', v, H', h1, h2 (h5.fine (hf.step h3)) h3.2.1, h3, h4, h5⟩
theorem codeW_fine {c : Code} {T : List AV} {H : AHeap} {Q : AExit → List AV → AHeap → Prop} (h : Fine H → CodeW P E w0 c T H Q) : CodeW P E w0 c T H Q :=
  fun w ρ a R hR hf hT hk => h (hR.fine hf) w ρ a R hR hf hT hk

/-- A contract that is used. -/
theorem FnW.use {f : FuncId} {args : List AV} {H : AHeap} {Q K : AV → AHeap → Prop} (h : FnW P E w0 f args H Q) (hk : ∀ v H', Q v H' → Fine H' → H.next ≤ H'.next → K v H') : FnW P E w0 f args H K :=
  fnW_after (h.mono fun v H' hq => hk v H' hq)

/-- A pure function's answer, by one run from nothing; it holds no places. -/
theorem fnW_pure (hm : P.follows .mixedOrders = true) {n : Nat} {f : FuncId} {args : List AV} {v : AV} {H1 : AHeap} (h : callFA P (fun _ => none) noOv n f args AHeap.empty = some (v, H1))
    (hargs : ∀ ρ vs, relL ρ args vs → relL (fun _ => none) args vs) (hv : ∀ ρ ρ' u, rel ρ v u → rel ρ' v u) {H : AHeap} : FnW P E w0 f args H fun v' H' => v' = v ∧ H' = H := by
  intro w ρ vargs R hf hr
  refine Calls.mono (calls_of_run hm h noOv_ok (W := w) (fun b cs e => by cases e) (hargs _ _ hr)) ?_
  rintro e w' ⟨u, ρ', rfl, g1, g2, g3, g4, g5⟩
  refine ⟨u, ρ, v, H, rfl, ⟨rfl, rfl⟩, Nx.refl _ _, hv _ _ _ g1, ?_⟩
  refine ⟨Nat.le_trans R.size g2, fun b hb => ?_, R.env, ⟨g3.trans R.side.1, g4.trans R.side.2⟩, fun k o hk => ?_, R.apart, R.pres, R.kin⟩
  · rw [g5 b (Nat.lt_of_lt_of_le hb R.size)]; exact R.old b hb
  · obtain ⟨l, k1, k2, k3⟩ := R.objs k o hk
    exact ⟨l, k1, k2, objOk_heap k3 (g5 _ (objOk_lt k3))⟩
end fine
end Go.Am
