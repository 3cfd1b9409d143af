/-
  Texts Dj Pa Dk Ca Cb, as far as they are used.
-/
import Derived.Test.YtcboaonbfgjmgaaZau
section
namespace Go.Am
set_option linter.unusedVariables false
set_option linter.unusedSimpArgs false
section
variable {P : Program} {E : Env} {w0 : World} {x : Bool}
@[simp] theorem oD {α : Type} (a : α) (Q : α → Prop) : optW (some a) Q = Q a := (rfl)
@[simp] theorem cdT (a b : Prop) : condD (.bool true) a b = a := (rfl)
@[simp] theorem cdF (a b : Prop) : condD (.bool false) a b = b := (rfl)
theorem cdB (t : Bool) (a b : Prop) : condD (.bool t) a b ↔ (t = true → a) ∧ (t = false → b) := by cases t <;> simp
theorem cdI (p : Prop) [Decidable p] (a b : Prop) : condD (.bool (decide p)) a b ↔ (p → a) ∧ (¬ p → b) := by
  by_cases h : p <;> simp [h]
@[simp] theorem gdT (s : (D → DSt → Prop) → Prop) (S : DSt) (Q : D → DSt → Prop) : guardD (some true) s S Q = s Q := (rfl)
@[simp] theorem gdF (s : (D → DSt → Prop) → Prop) (S : DSt) (Q : D → DSt → Prop) : guardD (some false) s S Q = Q undefD S := (rfl)
@[simp] theorem vdT (r : Option D) : valGD (some true) r = r := (rfl)
@[simp] theorem vdF (r : Option D) : valGD (some false) r = some undefD := (rfl)
@[simp] theorem wdB (b w : Bool) : wantsD (.bool b) w = some (b == w) := (rfl)
@[simp] theorem wdU (w : Bool) : wantsD undefD w = some false := (rfl)
@[simp] theorem pdB (t : Bool) (a b : D) : pickD (.bool t) a b = some (if t then a else b) := (rfl)
@[simp] theorem exD (vs : List D) (i : Nat) : extractD (.tup vs) i = vs[i]? := (rfl)
@[simp] theorem ndP (k i : Nat) : nilD (.ptr k i) = some (.ptr k i) := (rfl)
@[simp] theorem ndR (k r i sz : Nat) : nilD (.rel k r i sz) = some (.rel k r i sz) := (rfl)
@[simp] theorem ndE (row : List D) (i : Nat) : nilD (.elt row i) = some (.elt row i) := (rfl)
@[simp] theorem ndF (f : FuncId) (a b : List D) : nilD (.fn (.func f) a b) = some (.fn (.func f) a b) := (rfl)
@[simp] theorem ndI (t : TypeId) (v : D) : nilD (.ifc t v) = some (.ifc t v) := (rfl)
@[simp] theorem ofP (k i o : Nat) : offD o (.ptr k i) = some (.ptr k (i + o)) := (rfl)
@[simp] theorem ofR (k r i sz o : Nat) : offD o (.rel k r i sz) = some (.rel k r (i + o) sz) := (rfl)
@[simp] theorem ofE (row : List D) (i o : Nat) : offD o (.elt row i) = some (.elt row (i + o)) := (rfl)
@[simp] theorem paA (off n : Nat) (cs : List D) : partAg off n (.agg cs) = some (.agg ((cs.drop off).take n)) := (rfl)
@[simp] theorem psA (off : Nat) (cs : List D) : partSc off (.agg cs) = cs[off]? := (rfl)
@[simp] theorem lnN : lenSl .nilSlc = some (.int .i64 0) := (rfl)
@[simp] theorem lnL (rows : List (List D)) (sz : Nat) : lenSl (.lst rows sz) = some (.int .i64 rows.length) := (rfl)
@[simp] theorem lnE (rows more : List (List D)) (sz : Nat) : lenSl (.ext rows more sz) = some (.int .i64 rows.length) := (rfl)
@[simp] theorem lnR (k i len cap : Nat) (ex : Bool) (sz : Nat) : lenSl (.raw k i len cap ex sz) = some (.int .i64 len) := (rfl)
@[simp] theorem lnS (s : List UInt8) : lenStr (.str s) = some (.int .i64 s.length) := (rfl)
@[simp] theorem cvI (k k' : IntKind) (n : Int) : convI k (.int k' n) = some (.int k (k.wrap n)) := (rfl)
@[simp] theorem cvS (s : List UInt8) : convStr (.str s) = some (.str s) := (rfl)
@[simp] theorem unN (b : Bool) : unD .not (.bool b) = some (.bool !b) := (rfl)
@[simp] theorem unM (k : IntKind) (n : Int) : unD .neg (.int k n) = some (.int k (k.wrap (0 - n))) := (rfl)
@[simp] theorem biAdd (k : IntKind) (a b : Int) : binI .add (.int k a) (.int k b) = some (.int k (k.wrap (a + b))) := by simp [binI, intBinA, ofAV1]
@[simp] theorem biSub (k : IntKind) (a b : Int) : binI .sub (.int k a) (.int k b) = some (.int k (k.wrap (a - b))) := by simp [binI, intBinA, ofAV1]
@[simp] theorem biMul (k : IntKind) (a b : Int) : binI .mul (.int k a) (.int k b) = some (.int k (k.wrap (a * b))) := by simp [binI, intBinA, ofAV1]
@[simp] theorem biEq (k : IntKind) (a b : Int) : binI .eql (.int k a) (.int k b) = some (.bool (a == b)) := by simp [binI, intBinA, ofAV1]
@[simp] theorem biNe (k : IntKind) (a b : Int) : binI .neq (.int k a) (.int k b) = some (.bool (a != b)) := by simp [binI, intBinA, ofAV1]
@[simp] theorem biLt (k : IntKind) (a b : Int) : binI .lss (.int k a) (.int k b) = some (.bool (decide (a < b))) := by simp [binI, intBinA, ofAV1]
@[simp] theorem biLe (k : IntKind) (a b : Int) : binI .leq (.int k a) (.int k b) = some (.bool (decide (a ≤ b))) := by simp [binI, intBinA, ofAV1]
@[simp] theorem biGt (k : IntKind) (a b : Int) : binI .gtr (.int k a) (.int k b) = some (.bool (decide (a > b))) := by simp [binI, intBinA, ofAV1]
@[simp] theorem biGe (k : IntKind) (a b : Int) : binI .geq (.int k a) (.int k b) = some (.bool (decide (a ≥ b))) := by simp [binI, intBinA, ofAV1]
@[simp] theorem biAnd (k : IntKind) (a b : Int) : binI .and (.int k a) (.int k b) = some (.int k (k.wrap (BitVec.ofInt k.bits a &&& BitVec.ofInt k.bits b).toNat)) := by simp [binI, intBinA, ofAV1]
@[simp] theorem biOr (k : IntKind) (a b : Int) : binI .or (.int k a) (.int k b) = some (.int k (k.wrap (BitVec.ofInt k.bits a ||| BitVec.ofInt k.bits b).toNat)) := by simp [binI, intBinA, ofAV1]
@[simp] theorem biXor (k : IntKind) (a b : Int) : binI .xor (.int k a) (.int k b) = some (.int k (k.wrap (BitVec.ofInt k.bits a ^^^ BitVec.ofInt k.bits b).toNat)) := by simp [binI, intBinA, ofAV1]
theorem biShl (k k' : IntKind) (a : Int) (b : Int) (h : 0 ≤ b) : binI .shl (.int k a) (.int k' b) = some (.int k (k.wrap (a * 2 ^ (min b.toNat k.bits)))) := by simp only [binI]; rw [if_neg (by omega)]
theorem biShr (k k' : IntKind) (a : Int) (b : Int) (h : 0 ≤ b) : binI .shr (.int k a) (.int k' b) = some (.int k (a.fdiv (2 ^ (min b.toNat k.bits)))) := by simp only [binI]; rw [if_neg (by omega)]
@[simp] theorem bsAdd (a b : List UInt8) : binS .add (.str a) (.str b) = if ((a.length + b.length : Nat) : Int) ≤ IntKind.i64.max then some (.str (a ++ b)) else none := by
  simp only [binS, strBinA]; split <;> rfl
@[simp] theorem bsEq (a b : List UInt8) : binS .eql (.str a) (.str b) = some (.bool (a == b)) := (rfl)
@[simp] theorem bsNe (a b : List UInt8) : binS .neq (.str a) (.str b) = some (.bool !(a == b)) := (rfl)
@[simp] theorem eqE (b : Bool) : eqOp .eql (some b) = some (.bool b) := (rfl)
@[simp] theorem eqN (b : Bool) : eqOp .neq (some b) = some (.bool !b) := (rfl)
@[simp] theorem eqBB (a b : Bool) : eqBo (.bool a) (.bool b) = some (a == b) := (rfl)
@[simp] theorem clB (b : Bool) : cellsD (.bool b) = some [.bool b] := (rfl)
@[simp] theorem clI (k : IntKind) (n : Int) : cellsD (.int k n) = some [.int k n] := (rfl)
@[simp] theorem clS (s : List UInt8) : cellsD (.str s) = some [.str s] := (rfl)
@[simp] theorem clN : cellsD .nilSlc = some [.nilSlc] := (rfl)
@[simp] theorem clP : cellsD .nilPtr = some [.nilPtr] := (rfl)
@[simp] theorem clF : cellsD .nilFn = some [.nilFn] := (rfl)
@[simp] theorem clL (rows : List (List D)) (sz : Nat) : cellsD (.lst rows sz) = some [.lst rows sz] := (rfl)
@[simp] theorem clE (rows more : List (List D)) (sz : Nat) : cellsD (.ext rows more sz) = some [.ext rows more sz] := (rfl)
@[simp] theorem clR (k i len cap : Nat) (ex : Bool) (sz : Nat) : cellsD (.raw k i len cap ex sz) = some [.raw k i len cap ex sz] := (rfl)
@[simp] theorem clA (cs : List D) : cellsD (.agg cs) = some cs := (rfl)
@[simp] theorem clPt (k i : Nat) : cellsD (.ptr k i) = some [.ptr k i] := (rfl)
@[simp] theorem clFn (f : Fn) (a b : List D) : cellsD (.fn f a b) = some [.fn f a b] := (rfl)
@[simp] theorem clIf (t : TypeId) (v : D) : cellsD (.ifc t v) = some [.ifc t v] := (rfl)
@[simp] theorem agS (cs : List D) : aggD (some cs) = some (.agg cs) := (rfl)
@[simp] theorem fiN (cs : List D) : fillD cs [] = some cs := (rfl)
@[simp] theorem frN (sz : Nat) (rows : List (List D)) : fillR sz rows [] = some rows := (rfl)
@[simp] theorem lsE (row : List D) (i : Nat) (S : DSt) : loadSc S (.elt row i) = row[i]? := (rfl)
@[simp] theorem laE (row : List D) (i n : Nat) (S : DSt) : loadAg S n (.elt row i) = if 0 < n ∧ i + n ≤ row.length then some (.agg ((row.drop i).take n)) else none := (rfl)
@[simp] theorem mxD (k : IntKind) (a b : Int) : minMaxD true [.int k a, .int k b] = some (.int k (if b > a then b else a)) := (rfl)
@[simp] theorem mnD (k : IntKind) (a b : Int) : minMaxD false [.int k a, .int k b] = some (.int k (if b < a then b else a)) := (rfl)
theorem fwE (row : List D) (i : Nat) (S S' : DSt) : footW (.elt row i) S S' = True := (rfl)
theorem fwP (k i : Nat) (S S' : DSt) : footW (.ptr k i) S S' = (S' k = S k) := (rfl)
theorem idxL {rows : List (List D)} {sz i : Nat} {row : List D} (h : rows[i]? = some row) : idxSl sz (.lst rows sz) (.int .i64 (i : Int)) = some (.elt row 0) := by
  simp only [idxSl]
  rw [if_pos ⟨by trivial, by omega⟩, Int.toNat_natCast, h]
theorem idxE {rows more : List (List D)} {sz i : Nat} {row : List D} (h : rows[i]? = some row) : idxSl sz (.ext rows more sz) (.int .i64 (i : Int)) = some (.elt row 0) := by
  simp only [idxSl]
  rw [if_pos ⟨by trivial, by omega⟩, Int.toNat_natCast, h]
theorem idxR {k i len cap sz j : Nat} {ex : Bool} (h : j < len) : idxSl sz (.raw k i len cap ex sz) (.int .i64 (j : Int)) = some (.rel k (i + j) 0 sz) := by
  simp only [idxSl]
  rw [if_pos ⟨by trivial, by omega, by omega⟩, Int.toNat_natCast]
theorem DSt.fresh {S : DSt} {j k : Nat} {o : DObj} (h : (S.set j o) k = Option.none) : k ≠ j ∧ S k = Option.none := by
  unfold DSt.set at h
  split at h
  · cases h
  · rename_i e; exact ⟨e, h⟩
theorem rowAt_ptr {S : DSt} {k i sz : Nat} {cs : List D} {acs : List AV} (h : S k = some ⟨sz, [cs], acs⟩) : rowAt S (.ptr k i) = some (cs, i) := by
  simp only [rowAt, h]
theorem rowAt_rel {S : DSt} {k r i sz : Nat} {rows : List (List D)} {row : List D} {acs : List AV} (h : S k = some ⟨sz, rows, acs⟩) (hr : rows[r]? = some row) : rowAt S (.rel k r i sz) = some (row, i) := by
  simp only [rowAt, h, hr]; rfl
theorem ldP {S : DSt} {k i sz : Nat} {cs : List D} {acs : List AV} (h : S k = some ⟨sz, [cs], acs⟩) : loadSc S (.ptr k i) = cs[i]? := by simp only [loadSc, rowAt_ptr h]
theorem laP {S : DSt} {k i n sz : Nat} {cs : List D} {acs : List AV} (h : S k = some ⟨sz, [cs], acs⟩) (hn : 0 < n ∧ i + n ≤ cs.length) : loadAg S n (.ptr k i) = some (.agg ((cs.drop i).take n)) := by
  simp only [loadAg, rowAt_ptr h]; rw [if_pos hn]
theorem ldR {S : DSt} {k r i sz : Nat} {rows : List (List D)} {row : List D} {acs : List AV} (h : S k = some ⟨sz, rows, acs⟩) (hr : rows[r]? = some row) : loadSc S (.rel k r i sz) = row[i]? := by simp only [loadSc, rowAt_rel h hr]
theorem stP {S : DSt} {k i n sz : Nat} {cs ds : List D} {acs : List AV} {v : D} {K : D → DSt → Prop} (h : S k = some ⟨sz, [cs], acs⟩) (hv : cellsD v = some ds) (hn : ds.length = n ∧ 0 < n ∧ i + n ≤ cs.length)
    (hK : ∀ acs, K undefD (S.set k ⟨sz, [setManyD cs i ds], acs⟩)) : storeD S n (.ptr k i) v K := by
  simp only [storeD, hv, h]
  rw [if_pos ⟨hn.1, hn.2.1⟩, if_pos hn.2.2]
  exact hK
theorem stR {S : DSt} {k r i n sz : Nat} {rows : List (List D)} {row ds : List D} {acs : List AV} {v : D} {K : D → DSt → Prop} (h : S k = some ⟨sz, rows, acs⟩) (hr : rows[r]? = some row) (hv : cellsD v = some ds) (hn : ds.length = n ∧ 0 < n ∧ i + n ≤ row.length)
    (hK : ∀ acs, K undefD (S.set k ⟨sz, rows.set r (setManyD row i ds), acs⟩)) : storeD S n (.rel k r i sz) v K := by
  simp only [storeD, hv, h, hr]
  rw [if_pos ⟨hn.1, hn.2.1⟩, if_pos (by trivial), if_pos hn.2.2]
  exact hK
theorem DSt.set_in (S : DSt) {k l : Nat} (h : k ≠ l) (a b c : DObj) : ((S.set k a).set l b).set k c = (S.set k c).set l b := by
  rw [DSt.set_comm S h, DSt.set_set, DSt.set_comm S h]
theorem DSt.le_new {S : DSt} {k : Nat} {o : DObj} (h : S k = Option.none) : S.le (S.set k o) := DSt.le_set (DSt.le_refl S) h
def ones (l : List D) : List (List D) := l.map fun d => [d]
@[simp] theorem ones_length (l : List D) : (ones l).length = l.length := List.length_map _
theorem ones_get {l : List D} {i : Nat} {d : D} (h : l[i]? = some d) : (ones l)[i]? = some [d] := by simp only [ones, List.getElem?_map, h]; rfl
/-- A slice that the run makes to grow: none at first; then all that an object of its own holds. -/
def Grw (S0 : DSt) (t : D) (rows : List (List D)) (sz : Nat) (S : DSt) : Prop :=
  (t = .nilSlc ∧ rows = [] ∧ S = S0) ∨ ∃ k acs, S0 k = Option.none ∧ t = .raw k 0 rows.length rows.length false sz ∧ S = S0.set k ⟨sz, rows, acs⟩
theorem Grw.nil (S : DSt) (sz : Nat) : Grw S .nilSlc [] sz S := .inl ⟨rfl, rfl, rfl⟩
theorem Grw.le {S0 S : DSt} {t : D} {rows : List (List D)} {sz : Nat} (h : Grw S0 t rows sz S) : S0.le S := by
  rcases h with ⟨_, _, rfl⟩ | ⟨k, acs, h, _, rfl⟩
  · exact DSt.le_refl _
  · exact DSt.le_new h
theorem Grw.len {S0 S : DSt} {t : D} {rows : List (List D)} {sz : Nat} (h : Grw S0 t rows sz S) : lenSl t = some (.int .i64 rows.length) := by
  rcases h with ⟨rfl, rfl, rfl⟩ | ⟨k, acs, h, rfl, rfl⟩ <;> rfl
theorem Grw.push {S0 S : DSt} {t : D} {rows : List (List D)} {sz bytes : Nat} (h : Grw S0 t rows sz S) {v : D} {news : List (List D)} (hv : rowsS S sz v = some news) (hb : 0 < bytes ∧ (2 * (rows.length + news.length) + 768) * bytes ≤ 2 ^ 47) {K : D → DSt → Prop}
    (hK : ∀ t' S', Grw S0 t' (rows ++ news) sz S' → K t' S') : appendD S sz bytes t v K := by
  simp only [appendD, hv]
  rcases h with ⟨rfl, rfl, rfl⟩ | ⟨k, acs, h, rfl, rfl⟩
  · simp only [growD]
    by_cases hn : news = []
    · rw [if_pos hn]
      exact hK _ _ (.inl ⟨rfl, by rw [hn]; rfl, rfl⟩)
    · rw [if_neg hn]
      refine ⟨⟨hb.1, by simpa using hb.2⟩, .inr fun k acs hk => hK _ _ (.inr ⟨k, acs, hk, ?_, ?_⟩)⟩ <;> simp
  · simp only [growD]
    by_cases hn : news = []
    · rw [if_pos hn]
      refine hK _ _ (.inr ⟨k, acs, h, ?_, ?_⟩) <;> simp [hn]
    · rw [if_neg hn, DSt.set_same]
      simp only
      rw [if_pos ⟨by trivial, by trivial, by omega⟩]
      refine ⟨hb, .inr fun k' acs' hk' => ?_⟩
      rw [DSt.erase_set _ _ _ h] at hk' ⊢
      refine hK _ _ (.inr ⟨k', acs', hk', ?_, ?_⟩) <;> simp
theorem Grw.swap {S0 S1 S : DSt} {t u : D} {r q : List (List D)} {s z : Nat} (h : Grw S0 t r s S1) (h' : Grw S1 u q z S) : ∃ S2, Grw S0 u q z S2 ∧ Grw S2 t r s S := by
  rcases h with ⟨rfl, rfl, rfl⟩ | ⟨k, acs, hk, rfl, rfl⟩
  · exact ⟨S, h', .inl ⟨rfl, rfl, rfl⟩⟩
  · rcases h' with ⟨rfl, rfl, rfl⟩ | ⟨l, bcs, hl, rfl, rfl⟩
    · exact ⟨S0, .inl ⟨rfl, rfl, rfl⟩, .inr ⟨k, acs, hk, rfl, rfl⟩⟩
    · obtain ⟨hne, hl0⟩ := DSt.fresh hl
      refine ⟨S0.set l ⟨z, q, bcs⟩, .inr ⟨l, bcs, hl0, rfl, rfl⟩, .inr ⟨k, acs, ?_, rfl, ?_⟩⟩
      · rw [DSt.set_ne _ _ _ (Ne.symm hne)]; exact hk
      · exact DSt.set_comm _ (Ne.symm hne) _ _
theorem Grw.fin {S0 S : DSt} {t : D} {rows : List (List D)} {sz : Nat} (h : Grw S0 t rows sz S) {Q : D → DSt → Prop} (hq : FinD E Q (.lst rows sz) S0) : FinD E Q t S := by
  rcases h with ⟨rfl, rfl, rfl⟩ | ⟨k, acs, h, rfl, rfl⟩
  · exact FinD.nil hq
  · refine FinD.freeze (DSt.set_same _ _ _) rfl (by simp) (Nat.le_refl _) ?_
    rw [DSt.erase_set _ _ _ h]
    simpa using hq
theorem Grw.finT {S0 S : DSt} {t : D} {rows : List (List D)} {sz : Nat} (h : Grw S0 t rows sz S) {Q : D → DSt → Prop} {lp lq : List D} (hq : FinD E Q (.tup (lp ++ .lst rows sz :: lq)) S0) : FinD E Q (.tup (lp ++ t :: lq)) S := by
  rcases h with ⟨rfl, rfl, rfl⟩ | ⟨k, acs, h, rfl, rfl⟩
  · exact FinD.nilT hq
  · refine FinD.freezeT (DSt.set_same _ _ _) rfl (by simp) (Nat.le_refl _) ?_
    rw [DSt.erase_set _ _ _ h]
    simpa using hq
theorem Grw.under {S0 S : DSt} {t : D} {rows : List (List D)} {sz : Nat} (h : Grw S0 t rows sz S) {k : Nat} {o : DObj} (hk : S k = Option.none) : Grw (S0.set k o) t rows sz (S.set k o) := by
  rcases h with ⟨rfl, rfl, rfl⟩ | ⟨l, acs, h, rfl, rfl⟩
  · exact .inl ⟨rfl, rfl, rfl⟩
  · obtain ⟨hne, hk0⟩ := DSt.fresh hk
    refine .inr ⟨l, acs, ?_, rfl, DSt.set_comm _ (Ne.symm hne) _ _⟩
    rw [DSt.set_ne _ _ _ (Ne.symm hne)]; exact h
theorem Grw.drop {S0 S : DSt} {t : D} {rows : List (List D)} {sz k : Nat} {o : DObj} (h : Grw (S0.set k o) t rows sz S) (hk : S0 k = Option.none) : ∃ S', S'.le S ∧ Grw S0 t rows sz S' := by
  rcases h with ⟨rfl, rfl, rfl⟩ | ⟨l, acs, h, rfl, rfl⟩
  · exact ⟨S0, DSt.le_new hk, .inl ⟨rfl, rfl, rfl⟩⟩
  · obtain ⟨hne, hl0⟩ := DSt.fresh h
    refine ⟨S0.set l ⟨sz, rows, acs⟩, ?_, .inr ⟨l, acs, hl0, rfl, rfl⟩⟩
    rw [DSt.set_comm _ (Ne.symm hne)]
    refine DSt.le_new ?_
    rw [DSt.set_ne _ _ _ (Ne.symm hne)]; exact hk
/-- From a lesser state. -/
theorem Grw.base {S0 S1 S : DSt} {t : D} {rows : List (List D)} {sz : Nat} (h : Grw S1 t rows sz S) (hle : S0.le S1) : ∃ S', S'.le S ∧ Grw S0 t rows sz S' := by
  rcases h with ⟨rfl, rfl, rfl⟩ | ⟨l, acs, h, rfl, rfl⟩
  · exact ⟨S0, hle, .inl ⟨rfl, rfl, rfl⟩⟩
  · have hl : S0 l = Option.none := by
      cases e : S0 l with
      | none => rfl
      | some o => rw [hle _ _ e] at h; cases h
    refine ⟨S0.set l ⟨sz, rows, acs⟩, fun j o e => ?_, .inr ⟨l, acs, hl, rfl, rfl⟩⟩
    unfold DSt.set at e ⊢
    split at e
    · rename_i hj; rw [if_pos hj]; exact e
    · rename_i hj; rw [if_neg hj]; exact hle _ _ e
/-- An array that is filled: rows of an object of its own. -/
theorem makeL {S : DSt} {sz bytes : Nat} {z : List D} {n : Nat} {K : D → DSt → Prop} (hb : bytes * n ≤ 2 ^ 47 ∧ n < 2 ^ 60) (hK : ∀ k acs, S k = Option.none → K (.raw k 0 n n true sz) (S.set k ⟨sz, List.replicate n z, acs⟩)) : makeD S sz bytes z (.int .i64 (n : Int)) (.int .i64 (n : Int)) K := by
  simp only [makeD]
  rw [if_pos ⟨by omega, by omega, by have := hb.1; exact_mod_cast this, by omega⟩, Int.toNat_natCast]
  exact .inr hK
/-- A pure answer is used. -/
theorem lit_lst {S : DSt} {sz : Nat} {rows : List (List D)} {len : Nat} {K : D → DSt → Prop} (hl : rows.length = len) (h : K (.lst rows sz) S) : litD S sz (some rows) len K := by
  simp only [litD, oD]
  refine .inl ?_
  rw [List.take_of_length_le (by omega)]
  exact h
theorem lit_raw {S : DSt} {sz : Nat} {rows : List (List D)} {len : Nat} {K : D → DSt → Prop} (h : ∀ k acs, S k = Option.none → K (.raw k 0 len len true sz) (S.set k ⟨sz, rows, acs⟩)) : litD S sz (some rows) len K := by
  simp only [litD, oD]
  exact .inr h
end
end Go.Am
end

section
namespace Go.Op
open Go.Am
set_option linter.unusedVariables false
set_option linter.unusedSimpArgs false
set_option maxRecDepth 100000
/-- Between which numbers a width's are. -/
def fitLo (w : Int) : Int := if w = 1 then -128 else if w = 2 then -2147483648 else if w = 3 then -9223372036854775808 else 1
def fitHi (w : Int) : Int := if w = 1 then 127 else if w = 2 then 2147483647 else if w = 3 then 9223372036854775807 else 0
def I64 (n : Int) : Prop := -9223372036854775808 ≤ n ∧ n ≤ 9223372036854775807
/-- word.Bits. -/
def bitsS (w : Int) : Int := if w = 1 then 8 else if w = 2 then 32 else if w = 3 then 64 else 0
/-- word.Wrap. -/
def wrapS (w n : Int) : Int := if w = 1 then IntKind.i64.wrap (IntKind.i8.wrap n) else if w = 2 then IntKind.i64.wrap (IntKind.i32.wrap n) else if w = 3 then n else 0
theorem u8_wrap (n : Int) : IntKind.u8.wrap n = n % 256 := by
  simp only [IntKind.wrap, IntKind.bits, IntKind.signed]; simp
theorem u64_wrap (n : Int) : IntKind.u64.wrap n = n % 18446744073709551616 := by
  simp only [IntKind.wrap, IntKind.bits, IntKind.signed]; simp
def byteAt (n : Int) (i : Nat) : Int := (n / 2 ^ (8 * i)) % 256
/-- A number's lowest bytes. -/
def fixS (n : Int) (size : Nat) : List Int := (List.range size).map (byteAt n)
theorem fixS_length (n : Int) (s : Nat) : (fixS n s).length = s := by simp [fixS]
/-- A number behind an Op. -/
structure Fld where
  size : Nat
  lo : Int
  hi : Int
  deriving DecidableEq
def fIx : Fld := ⟨2, 0, 65535⟩
def fLeap : Fld := ⟨4, 0, 4294967295⟩
def fWid : Fld := ⟨1, 1, 3⟩
def lay3 (b : Bool) (op : Int) : Option (List Fld) :=
  if b then some [fLeap] else if op = 52 then some [⟨1, 0, 255⟩] else if op = 49 then some [fWid]
  else if 11 ≤ op ∧ op ≤ 28 then some [fWid] else if 1 ≤ op ∧ op ≤ 52 then some [] else none
def lay2 (b : Bool) (op : Int) : Option (List Fld) :=
  if b then some [⟨1, 1, 5⟩] else if op = 29 then some [fWid, fWid] else lay3 (op == 46 || op == 47 || op == 48) op
def lay1 (b : Bool) (op : Int) : Option (List Fld) := if b then some [fIx, fIx] else lay2 (op == 23 || op == 24) op
def lay0 (b : Bool) (op : Int) : Option (List Fld) := if b then some [fIx] else lay1 (op == 37 || op == 38) op
/-- What stands behind an Op. -/
def lay (op : Int) : Option (List Fld) :=
  if op = 1 then some [⟨1, fitLo 1, fitHi 1⟩] else if op = 2 then some [⟨4, fitLo 2, fitHi 2⟩] else if op = 3 then some [⟨8, fitLo 3, fitHi 3⟩]
  else lay0 (op == 6 || op == 7 || op == 8 || op == 50 || op == 36 || op == 39 || op == 40 || op == 41 || op == 42 || op == 43 || op == 44 || op == 45) op
/-- An instruction. -/
structure In where
  op : Int
  a : Int
  b : Int
  arms : List (Int × Int)
structure In.Ok (x : In) : Prop where
  op : 0 ≤ x.op ∧ x.op ≤ 255
  a : I64 x.a
  b : I64 x.b
  arms : ∀ y ∈ x.arms, I64 y.1 ∧ I64 y.2
  short : x.arms.length < 2 ^ 44
def Fld.may (f : Fld) (n : Int) : Bool := decide (f.lo ≤ n ∧ n ≤ f.hi)
def In.num (x : In) (i : Nat) : Int := if i = 1 then x.b else x.a
def fldB (x : In) : Nat → List Fld → List Int
  | _, [] => []
  | i, f :: l => fixS (x.num i) f.size ++ fldB x (i + 1) l
def fldOk (x : In) : Nat → List Fld → Bool
  | _, [] => true
  | i, f :: l => f.may (x.num i) && fldOk x (i + 1) l
def armB (y : Int × Int) : List Int := fixS y.1 8 ++ fixS y.2 4
def armOk (w : Int) (y : Int × Int) : Bool := decide (fitLo w ≤ y.1 ∧ y.1 ≤ fitHi w) && decide (0 ≤ y.2 ∧ y.2 ≤ 4294967295)
/-- Is it an instruction? -/
def isS (x : In) : Bool :=
  (lay x.op).isSome && fldOk x 0 ((lay x.op).getD []) &&
    if x.op = 49 then decide (x.arms.length ≤ 65535) && x.arms.all (armOk (IntKind.u8.wrap x.a)) && decide (0 ≤ x.b ∧ x.b ≤ 4294967295)
    else decide (x.arms.length = 0) && (decide (2 ≤ ((lay x.op).getD []).length) || decide (x.b = 0)) && (decide (1 ≤ ((lay x.op).getD []).length) || decide (x.a = 0))
def armsB (arms : List (Int × Int)) : List Int := arms.flatMap armB
/-- Its bytes. -/
def encB (x : In) : List Int := x.op :: fldB x 0 ((lay x.op).getD []) ++ if x.op = 49 then fixS x.arms.length 2 ++ armsB x.arms ++ fixS x.b 4 else []
def goodLay (l : Option (List Fld)) : Bool := (l.getD []).all (fun f => decide (1 ≤ f.size ∧ f.size ≤ 8)) && decide ((l.getD []).length ≤ 2)
theorem good_ite {c : Prop} [Decidable c] {a b : Option (List Fld)} (ha : goodLay a = true) (hb : goodLay b = true) : goodLay (if c then a else b) = true := by
  by_cases h : c
  · rw [if_pos h]; exact ha
  · rw [if_neg h]; exact hb
theorem lay_good (op : Int) : goodLay (lay op) = true := by
  unfold lay lay0 lay1 lay2 lay3
  repeat' apply good_ite
  all_goals rfl
theorem lay_length {op : Int} : ((lay op).getD []).length ≤ 2 := by
  have h := lay_good op
  simp only [goodLay, Bool.and_eq_true, List.all_eq_true, decide_eq_true_eq] at h
  exact h.2
theorem armsB_length : ∀ l : List (Int × Int), (armsB l).length = 12 * l.length
  | [] => rfl
  | y :: l => by
    have := armsB_length l
    simp only [armsB, List.flatMap_cons, List.length_append, armB, fixS_length, List.length_cons] at this ⊢
    omega
def Byte (b : Int) : Prop := 0 ≤ b ∧ b ≤ 255
/-- A field that a number can be told for. -/
def goodF (f : Fld) : Prop := 1 ≤ f.size ∧ ((f.size ≤ 7 ∧ 0 ≤ f.lo ∧ f.hi < 2 ^ (8 * f.size)) ∨ (f.size ≤ 7 ∧ -(2 ^ (8 * f.size - 1)) ≤ f.lo ∧ f.hi < 2 ^ (8 * f.size - 1)) ∨ (f.size = 8 ∧ -9223372036854775808 ≤ f.lo ∧ f.hi ≤ 9223372036854775807))
def vF (w : Int) : Fld := ⟨8, fitLo w, fitHi w⟩
theorem goodF_ite {c : Prop} [Decidable c] {a b : Option (List Fld)} (ha : ∀ f ∈ a.getD [], goodF f) (hb : ∀ f ∈ b.getD [], goodF f) : ∀ f ∈ (if c then a else b).getD [], goodF f := by
  by_cases h : c
  · rw [if_pos h]; exact ha
  · rw [if_neg h]; exact hb
theorem goodF_lay (op : Int) : ∀ f ∈ (lay op).getD [], goodF f := by
  unfold lay lay0 lay1 lay2 lay3
  repeat' apply goodF_ite
  all_goals (intro f hf; simp only [Option.getD_some, Option.getD_none, List.mem_cons, List.not_mem_nil, or_false, or_self, false_or, fIx, fLeap, fWid] at hf)
  all_goals (subst hf)
  all_goals (first | exact ⟨by decide, .inl ⟨by decide, by decide, by decide⟩⟩ | exact ⟨by decide, .inr (.inl ⟨by decide, by decide, by decide⟩)⟩ | exact ⟨by decide, .inr (.inr ⟨by decide, by decide, by decide⟩)⟩)
theorem armOk_v (w : Int) (y : Int × Int) : armOk w y = ((vF w).may y.1 && fLeap.may y.2) := rfl
theorem lay49 {l : List Fld} {op : Int} (h : lay op = some l) (h49 : op = 49) : l = [fWid] := by
  rw [h49] at h
  have : lay 49 = some [fWid] := rfl
  rw [this] at h
  cases h
  rfl
section
variable {bs es : List Int} {i : Nat} {f : Fld} {s sb sE : Nat × Int}
end
section
variable {bs l m : List Int} {f : Fld} {s : Nat × Int} {p : Nat}
/-- What stands at a place. -/
def Seg (bs : List Int) (p : Nat) (l : List Int) : Prop := p + l.length ≤ bs.length ∧ (bs.drop p).take l.length = l
theorem Seg.append (h : Seg bs p l) (g : Seg bs (p + l.length) m) : Seg bs p (l ++ m) := by
  obtain ⟨h1, h2⟩ := h
  obtain ⟨g1, g2⟩ := g
  refine ⟨by rw [List.length_append]; omega, ?_⟩
  rw [List.length_append, List.take_add, h2, List.drop_drop, g2]
theorem Seg.nil (h : p ≤ bs.length) : Seg bs p [] := ⟨by simpa using h, rfl⟩
theorem goodF_size (h : goodF f) : f.size ≤ 8 := by
  obtain ⟨_, h | h | h⟩ := h <;> omega
end
def layR (op : Int) : Option (List Fld) :=
  if op = 1 then some [⟨1, -128, 127⟩] else if op = 2 then some [⟨4, -2147483648, 2147483647⟩] else if op = 3 then some [⟨8, -9223372036854775808, 9223372036854775807⟩]
  else if (op == 6 || op == 7 || op == 8 || op == 50 || op == 36 || decide (39 ≤ op ∧ op ≤ 45)) = true then some [fIx] else if (op == 37 || op == 38) = true then some [fIx, fIx]
  else if (op == 23 || op == 24) = true then some [⟨1, 1, 5⟩] else if decide (11 ≤ op ∧ op ≤ 28) = true then some [fWid] else if op = 29 then some [fWid, fWid]
  else if (op == 46 || op == 47 || op == 48) = true then some [fLeap] else if op = 52 then some [⟨1, 0, 255⟩] else if op = 49 then some [fWid] else if decide (1 ≤ op ∧ op ≤ 52) = true then some [] else none
theorem layR_is (op : Int) : layR op = lay op := by
  unfold layR lay
  by_cases h1 : op = 1
  · rw [if_pos h1, if_pos h1]; rfl
  rw [if_neg h1, if_neg h1]
  by_cases h2 : op = 2
  · rw [if_pos h2, if_pos h2]; rfl
  rw [if_neg h2, if_neg h2]
  by_cases h3 : op = 3
  · rw [if_pos h3, if_pos h3]; rfl
  rw [if_neg h3, if_neg h3]
  unfold lay0
  have e : (op == 6 || op == 7 || op == 8 || op == 50 || op == 36 || decide (39 ≤ op ∧ op ≤ 45)) = (op == 6 || op == 7 || op == 8 || op == 50 || op == 36 || op == 39 || op == 40 || op == 41 || op == 42 || op == 43 || op == 44 || op == 45) := by
    rw [Bool.eq_iff_iff]
    simp only [Bool.or_eq_true, beq_iff_eq, decide_eq_true_eq]
    omega
  rw [e]
  by_cases h4 : (op == 6 || op == 7 || op == 8 || op == 50 || op == 36 || op == 39 || op == 40 || op == 41 || op == 42 || op == 43 || op == 44 || op == 45) = true
  · rw [if_pos h4, if_pos h4]
  rw [if_neg h4, if_neg h4]
  unfold lay1
  by_cases h5 : (op == 37 || op == 38) = true
  · rw [if_pos h5, if_pos h5]
  rw [if_neg h5, if_neg h5]
  unfold lay2
  by_cases h6 : (op == 23 || op == 24) = true
  · rw [if_pos h6, if_pos h6]
  rw [if_neg h6, if_neg h6]
  unfold lay3
  by_cases h7 : 11 ≤ op ∧ op ≤ 28
  · have g1 : ¬ (op == 46 || op == 47 || op == 48) = true := by simp only [Bool.or_eq_true, beq_iff_eq]; omega
    rw [if_pos (by simpa using h7), if_neg (show ¬ op = 29 by omega), if_neg g1, if_neg (show ¬ op = 52 by omega), if_neg (show ¬ op = 49 by omega), if_pos h7]
  · have g1 : ¬ decide (11 ≤ op ∧ op ≤ 28) = true := by simpa using h7
    rw [if_neg g1]
    by_cases h8 : op = 29
    · rw [if_pos h8, if_pos h8]
    rw [if_neg h8, if_neg h8]
    by_cases h9 : (op == 46 || op == 47 || op == 48) = true
    · rw [if_pos h9, if_pos h9]
    rw [if_neg h9, if_neg h9]
    by_cases h10 : op = 52
    · rw [if_pos h10, if_pos h10]
    rw [if_neg h10, if_neg h10]
    by_cases h11 : op = 49
    · rw [if_pos h11, if_pos h11]
    rw [if_neg h11, if_neg h11, if_neg h7]
    by_cases h12 : 1 ≤ op ∧ op ≤ 52
    · rw [if_pos (by simpa using h12), if_pos h12]
    · rw [if_neg (by simpa using h12), if_neg h12]
end Go.Op
end

section
namespace Go.Am
set_option linter.unusedVariables false
set_option linter.unusedSimpArgs false
mutual
/-- What is told of an object, told by what it holds. -/
def frz (k : Nat) (o : DObj) : D → D
  | .ptr j i => if j = k then (match o.rows with
    | [cs] => .elt cs i
    | _ => .any) else .ptr j i
  | .rel j r i sz => if j = k then (match o.rows[r]? with
    | some row => if o.sz = sz then .elt row i else .any
    | none => .any) else .rel j r i sz
  | .raw j i len cap ex sz => if j = k then (if o.sz = sz ∧ i + len ≤ o.rows.length ∧ len ≤ cap then .lst ((o.rows.drop i).take len) sz else .any) else .raw j i len cap ex sz
  | .fn f a b => .fn f (frzL k o a) (frzL k o b)
  | .ifc t v => .ifc t (frz k o v)
  | .agg cs => .agg (frzL k o cs)
  | .tup ds => .tup (frzL k o ds)
  | d => d
def frzL (k : Nat) (o : DObj) : List D → List D
  | [] => []
  | d :: ds => frz k o d :: frzL k o ds
end
section
variable {P : Program} {E : Env} {w0 : World} {x : Bool} {R : Fz} {S : DSt} {H : AHeap}
mutual
theorem rp_frz (hC : Conf E R S H) {k : Nat} {o : DObj} (hk : S k = some o) : ∀ {d : D} {v : AV}, Rp E R d v → Rp E (fun j => if j = k then some o.acs else R j) (frz k o d) v
  | .any, v, _ => by simp only [frz, Rp]
  | .bool b, v, h => by simp only [frz, Rp] at *; exact h
  | .int j n, v, h => by simp only [frz, Rp] at *; exact h
  | .str s, v, h => by simp only [frz, Rp] at *; exact h
  | .nilPtr, v, h => by simp only [frz, Rp] at *; exact h
  | .nilSlc, v, h => by simp only [frz, Rp] at *; exact h
  | .nilMap, v, h => by simp only [frz, Rp] at *; exact h
  | .nilFn, v, h => by simp only [frz, Rp] at *; exact h
  | .nilIfc, v, h => by simp only [frz, Rp] at *; exact h
  | .elt row i, v, h => by
    have := Rp.le (hC.freeze hk).2 _ _ h
    simp only [frz]; exact this
  | .lst rows sz, v, h => by
    have := Rp.le (hC.freeze hk).2 _ _ h
    simp only [frz]; exact this
  | .ext rows more sz, v, h => by
    have := Rp.le (hC.freeze hk).2 _ _ h
    simp only [frz]; exact this
  | .ptr j i, v, h => by
    simp only [frz]
    split
    · rename_i e
      subst e
      obtain ⟨h1, ⟨pre, h2⟩, h3, h4, h5⟩ := hC.own j o hk
      split
      · rename_i cs hcs
        simp only [Rp] at h ⊢
        subst h
        rw [hcs, List.flatten_singleton] at h5
        have e : o.acs.take cs.length = o.acs := List.take_of_length_le (by rw [h5.length]; exact Nat.le_refl _)
        refine ⟨.new j, 0, o.acs, by rw [Nat.zero_add], ?_, ?_, ?_⟩
        · show (if j = j then some o.acs else R j) = some o.acs
          rw [if_pos rfl]
        · rw [List.drop_zero, e]; exact RpL.le (hC.freeze hk).2 _ _ h5
        · rw [List.drop_zero, e]; exact h3
      · exact rp_any
    · simp only [Rp] at *; exact h
  | .rel j r i sz, v, h => by
    simp only [frz]
    split
    · rename_i e
      subst e
      obtain ⟨h1, ⟨pre, h2⟩, h3, h4, h5⟩ := hC.own j o hk
      split
      · rename_i row hrow
        split
        · rename_i hsz
          simp only [Rp] at h ⊢
          subst h
          have hl : row.length = sz := by rw [h4 row (List.mem_of_getElem? hrow), hsz]
          refine ⟨.new j, r * sz, o.acs, rfl, ?_, ?_, all_take (all_drop h3 _) _⟩
          · show (if j = j then some o.acs else R j) = some o.acs
            rw [if_pos rfl]
          · have := (h5.drop (r * sz)).take row.length
            rw [← hsz] at this hl ⊢
            rw [hl, flat_row h4 hrow] at this
            rw [hl]
            exact RpL.le (hC.freeze hk).2 _ _ this
        · exact rp_any
      · exact rp_any
    · simp only [Rp] at *; exact h
  | .raw j i len cap ex sz, v, h => by
    simp only [frz]
    split
    · rename_i e
      subst e
      split
      · rename_i hc
        exact rp_frozen hC hk h hc.1 hc.2.1 hc.2.2
      · exact rp_any
    · simp only [Rp] at *; exact h
  | .fn f a b, v, h => by
    simp only [frz, Rp] at *
    obtain ⟨a', b', e1, e2, e3⟩ := h
    exact ⟨a', b', e1, rpL_frz hC hk e2, rpL_frz hC hk e3⟩
  | .ifc t d, v, h => by
    simp only [frz, Rp] at *
    obtain ⟨v', e1, e2⟩ := h
    exact ⟨v', e1, rp_frz hC hk e2⟩
  | .agg cs, v, h => by
    simp only [frz, Rp] at *
    obtain ⟨vs, e1, e2, e3⟩ := h
    exact ⟨vs, e1, rpL_frz hC hk e2, e3⟩
  | .tup ds, v, h => by
    simp only [frz, Rp] at *
    obtain ⟨vs, e1, e2⟩ := h
    exact ⟨vs, e1, rpL_frz hC hk e2⟩
theorem rpL_frz (hC : Conf E R S H) {k : Nat} {o : DObj} (hk : S k = some o) : ∀ {ds : List D} {vs : List AV}, RpL E R ds vs → RpL E (fun j => if j = k then some o.acs else R j) (frzL k o ds) vs
  | [], vs, h => by simp only [frzL, RpL] at *; exact h
  | d :: ds, vs, h => by
    simp only [frzL, RpL] at *
    obtain ⟨v, ws, e1, e2, e3⟩ := h
    exact ⟨v, ws, e1, rp_frz hC hk e2, rpL_frz hC hk e3⟩
end
theorem FinD.frz {Q : D → DSt → Prop} {d : D} {k : Nat} {o : DObj} (hk : S k = Option.none) (h : FinD E Q (Am.frz k o d) S) : FinD E Q d (S.set k o) := fun R H v hC hd => by
  obtain ⟨h1, h2⟩ := hC.freeze (DSt.set_same S k o)
  rw [DSt.erase_set _ _ _ hk] at h1
  obtain ⟨R', S', d', a, b, c, e⟩ := h _ H v h1 (rp_frz hC (DSt.set_same S k o) hd)
  exact ⟨R', S', d', Fz.le_trans h2 a, b, c, e⟩
/-- What is told less of. -/
def Wk (d d' : D) : Prop := ∀ (E : Env) (R : Fz) (v : AV), Rp E R d v → Rp E R d' v
def WkL : List D → List D → Prop
  | [], [] => True
  | d :: ds, e :: es => Wk d e ∧ WkL ds es
  | _, _ => False
theorem Wk.refl (d : D) : Wk d d := fun _ _ _ h => h
theorem Wk.any (d : D) : Wk d .any := fun _ _ _ _ => rp_any
theorem Wk.nil (sz : Nat) : Wk .nilSlc (.lst [] sz) := fun E R v h => by simp only [Rp] at h ⊢; exact .inl ⟨by trivial, h⟩
theorem Wk.ext (rows more : List (List D)) (sz : Nat) : Wk (.ext rows more sz) (.lst rows sz) := fun E R v h => by
  simp only [Rp] at h ⊢
  obtain ⟨o, j, cap, ex, z, all, e1, e2, e3, e4, e5, e6, e7, e8, e9⟩ := h
  refine .inr ⟨o, j, cap, ex, z, e1, e2, by omega, e4, .inr ⟨all, e6, e7, ?_⟩⟩
  have := all_take e9 (rows.length * sz)
  rw [List.take_take, Nat.min_eq_left (Nat.mul_le_mul_right _ (by omega))] at this
  exact this
theorem WkL.refl : ∀ ds : List D, WkL ds ds
  | [] => trivial
  | d :: ds => ⟨Wk.refl d, WkL.refl ds⟩
theorem WkL.ok : ∀ {ds es : List D}, WkL ds es → ∀ {E : Env} {R : Fz} {vs : List AV}, RpL E R ds vs → RpL E R es vs
  | [], [], _, E, R, vs, h => h
  | d :: ds, e :: es, w, E, R, vs, h => by
    simp only [RpL] at h ⊢
    obtain ⟨v, ws, e1, e2, e3⟩ := h
    exact ⟨v, ws, e1, w.1 _ _ _ e2, WkL.ok w.2 e3⟩
  | [], _ :: _, w, _, _, _, _ => w.elim
  | _ :: _, [], w, _, _, _, _ => w.elim
theorem Wk.agg {ds es : List D} (w : WkL ds es) : Wk (.agg ds) (.agg es) := fun E R v h => by
  simp only [Rp] at h ⊢
  obtain ⟨vs, e1, e2, e3⟩ := h
  exact ⟨vs, e1, w.ok e2, e3⟩
theorem Wk.tup {ds es : List D} (w : WkL ds es) : Wk (.tup ds) (.tup es) := fun E R v h => by
  simp only [Rp] at h ⊢
  obtain ⟨vs, e1, e2⟩ := h
  exact ⟨vs, e1, w.ok e2⟩
theorem FinD.weak {Q : D → DSt → Prop} {d d' : D} (w : Wk d d') (h : FinD E Q d' S) : FinD E Q d S := fun R H v hC hd => h R H v hC (w _ _ _ hd)
/-- A call with arguments told less of. -/
theorem DF.weak {F : FW} {f : FuncId} {ds es : List D} {Q : D → DSt → Prop} (w : WkL ds es) (h : DF E F f es S Q) : DF E F f ds S Q := fun R H avs hF hC ha => h R H avs hF hC (w.ok ha)
/-- What is new is left away. -/
theorem FinD.drop {Q : D → DSt → Prop} {d : D} {k : Nat} {o : DObj} (hk : S k = Option.none) (h : FinD E Q d S) : FinD E Q d (S.set k o) := FinD.less (DSt.le_new hk) h
theorem FinD.pure {d : D} : FinD E (fun d' S' => d' = d ∧ S' = S) d S := FinD.here ⟨rfl, rfl⟩
theorem frz_raw {k i len cap sz : Nat} {ex : Bool} {rows : List (List D)} {acs : List AV} (h : i + len ≤ rows.length) (hc : len ≤ cap) : Am.frz k ⟨sz, rows, acs⟩ (.raw k i len cap ex sz) = .lst ((rows.drop i).take len) sz := by
  simp only [Am.frz, if_true]; rw [if_pos ⟨by trivial, h, hc⟩]
end
end Go.Am
end

section
open Go.Proofs Go Go.Am Go.Op
namespace Go.Proofs.Ytcboaonbfgjmgaa.d
set_option linter.unusedVariables false
set_option linter.unusedSimpArgs false
set_option maxRecDepth 100000
section
variable {E : Env} {w0 : World}
theorem word_Bits_ok {w : Int} : Pure Try.prog E w0 f_word_Bits [.int .u8 w] (.int .i64 (bitsS w)) := fun x S => by
  refine V_word_Bits_ok ?_
  unfold V_word_Bits bitsS
  simp only [biEq, oD, cdB, beq_iff_eq, beq_eq_false_iff_ne, ne_eq]
  refine ⟨fun h => ?_, fun h1 => ⟨fun h => ?_, fun h2 => ⟨fun h => ?_, fun h3 => ?_⟩⟩⟩ <;> simp only [*, if_true, if_false] <;> exact FinD.pure
theorem word_Wrap_ok {w n : Int} : Pure Try.prog E w0 f_word_Wrap [.int .u8 w, .int .i64 n] (.int .i64 (wrapS w n)) := fun x S => by
  refine V_word_Wrap_ok ?_
  unfold V_word_Wrap wrapS
  simp only [biEq, oD, cdB, beq_iff_eq, beq_eq_false_iff_ne, ne_eq, cvI]
  refine ⟨fun h => ?_, fun h1 => ⟨fun h => ?_, fun h2 => ⟨fun h => ?_, fun h3 => ?_⟩⟩⟩ <;> simp only [*, if_true, if_false] <;> exact FinD.pure
theorem i8_wrap (n : Int) : IntKind.i8.wrap n = if 128 ≤ n % 256 then n % 256 - 256 else n % 256 := by
  simp only [IntKind.wrap, IntKind.bits, IntKind.signed]; simp
theorem i32_wrap (n : Int) : IntKind.i32.wrap n = if 2147483648 ≤ n % 4294967296 then n % 4294967296 - 4294967296 else n % 4294967296 := by
  simp only [IntKind.wrap, IntKind.bits, IntKind.signed]; simp
theorem fits_iff {w n : Int} (hn : I64 n) : (0 < bitsS w ∧ wrapS w n = n) ↔ (fitLo w ≤ n ∧ n ≤ fitHi w) := by
  obtain ⟨h0, h1⟩ := hn
  unfold bitsS wrapS fitLo fitHi
  by_cases w1 : w = 1
  · simp only [if_pos w1]
    rw [i8_wrap, wrap_i64 (by split <;> omega) (by split <;> omega)]
    split <;> constructor <;> omega
  simp only [if_neg w1]
  by_cases w2 : w = 2
  · simp only [if_pos w2]
    rw [i32_wrap, wrap_i64 (by split <;> omega) (by split <;> omega)]
    split <;> constructor <;> omega
  simp only [if_neg w2]
  by_cases w3 : w = 3
  · simp only [if_pos w3]; exact ⟨fun _ => ⟨h0, h1⟩, fun _ => ⟨by decide, by trivial⟩⟩
  simp only [if_neg w3]; constructor <;> omega
theorem word_Fits_ok {w n : Int} (hn : I64 n) : Pure Try.prog E w0 f_word_Fits [.int .u8 w, .int .i64 n] (.bool (decide (fitLo w ≤ n ∧ n ≤ fitHi w))) := fun x S => by
  refine V_word_Fits_ok ?_
  unfold V_word_Fits
  refine word_Bits_ok.use ?_
  have hi := fits_iff (w := w) hn
  by_cases hb : bitsS w > 0
  · simp [hb]
    refine word_Wrap_ok.use ?_
    have e : (wrapS w n == n) = decide (fitLo w ≤ n ∧ n ≤ fitHi w) := by
      by_cases hw : wrapS w n = n
      · rw [decide_eq_true (hi.1 ⟨hb, hw⟩), hw]; simp
      · rw [decide_eq_false (fun h => hw (hi.2 h).2)]; simpa using hw
    simp [e]
    exact FinD.pure
  · have e : decide (fitLo w ≤ n ∧ n ≤ fitHi w) = false := decide_eq_false fun h => hb (hi.2 h).1
    rw [e]
    simp [hb]
    exact FinD.pure
/-- A function that tells whether a number is from one to another. -/
def betD (lo hi : Int) : D := .fn (.func f_ops_between_1) [] [.elt [.int .i64 lo] 0, .elt [.int .i64 hi] 0]
def fitD (w : Int) : D := .fn (.func f_ops_fits_1) [] [.elt [.int .u8 w] 0]
theorem ops_between_ok {lo hi : Int} : Pure Try.prog E w0 f_ops_between [.int .i64 lo, .int .i64 hi] (betD lo hi) := fun x S => by
  refine V_ops_between_ok ?_
  unfold V_ops_between
  simp only [clI, oD]
  intro k acs hk k2 acs2 hk2
  obtain ⟨hne, hk20⟩ := DSt.fresh hk2
  refine FinD.frz hk2 (FinD.frz hk ?_)
  simp only [Am.frz, frzL, if_true, if_neg hne, if_neg (Ne.symm hne)]
  exact FinD.pure
theorem ops_fits_ok {w : Int} : Pure Try.prog E w0 f_ops_fits [.int .u8 w] (fitD w) := fun x S => by
  refine V_ops_fits_ok ?_
  unfold V_ops_fits
  simp only [clI, oD]
  intro k acs hk
  refine FinD.frz hk ?_
  simp only [Am.frz, frzL, if_true]
  exact FinD.pure
theorem ops_between_1_ok {lo hi n : Int} : Pure Try.prog E w0 f_ops_between_1 [.int .i64 n, .elt [.int .i64 lo] 0, .elt [.int .i64 hi] 0] (.bool (decide (lo ≤ n ∧ n ≤ hi))) := fun x S => by
  refine V_ops_between_1_ok ?_
  unfold V_ops_between_1
  by_cases h : lo ≤ n <;> simp [h] <;> exact FinD.pure
theorem ops_fits_1_ok {w n : Int} (hn : I64 n) : Pure Try.prog E w0 f_ops_fits_1 [.int .i64 n, .elt [.int .u8 w] 0] (.bool (decide (fitLo w ≤ n ∧ n ≤ fitHi w))) := fun x S => by
  refine V_ops_fits_1_ok ?_
  unfold V_ops_fits_1
  simp only [lsE, List.getElem?_cons_zero, oD]
  exact (word_Fits_ok hn).use FinD.pure
end
end Go.Proofs.Ytcboaonbfgjmgaa.d
end

section
open Go.Proofs Go Go.Am Go.Op
namespace Go.Proofs.Ytcboaonbfgjmgaa.d
set_option linter.unusedVariables false
set_option linter.unusedSimpArgs false
set_option maxRecDepth 100000
/-- Bytes. -/
def bD (bs : List Int) : D := .lst (ones (bs.map (D.int .u8))) 1
theorem bD_at {bs : List Int} {i : Nat} {b : Int} (h : bs[i]? = some b) : idxSl 1 (bD bs) (.int .i64 (i : Int)) = some (.elt [.int .u8 b] 0) :=
  idxL (ones_get (by rw [List.getElem?_map, h]; rfl))
@[simp] theorem bD_len (bs : List Int) : lenSl (bD bs) = some (.int .i64 bs.length) := by simp [bD]
@[simp] theorem bD_rows (S : DSt) (bs : List Int) : rowsS S 1 (bD bs) = some (ones (bs.map (D.int .u8))) := by simp [bD, rowsS, rowsOf]
theorem ones_append (a b : List D) : ones (a ++ b) = ones a ++ ones b := by simp [ones]
theorem ones_set (l : List D) (i : Nat) (d : D) : (ones l).set i [d] = ones (l.set i d) := by simp [ones, List.map_set]
theorem u64_nat {a : Nat} (h : a < 2 ^ 64) : IntKind.u64.wrap (a : Int) = a := by rw [u64_wrap]; omega
theorem toNat_ofInt {w a : Nat} : (BitVec.ofInt w (a : Int)).toNat = a % 2 ^ w := by simp
theorem and_nat (a : Nat) : binI .and (.int .u64 (a : Int)) (.int .u64 1) = some (.int .u64 ((a % 2 : Nat) : Int)) := by
  rw [biAnd]
  show some (D.int .u64 (IntKind.u64.wrap ((BitVec.ofInt 64 (a : Int) &&& BitVec.ofInt 64 ((1 : Nat) : Int)).toNat : Int))) = _
  rw [BitVec.toNat_and, toNat_ofInt, toNat_ofInt, show (1 : Nat) % 2 ^ 64 = 1 from rfl, Nat.and_one_is_mod, u64_nat (by omega)]
  congr 3
  omega
theorem or_nat {a b : Nat} (ha : a < 2 ^ 64) (hb : b < 2 ^ 64) : binI .or (.int .u64 (a : Int)) (.int .u64 (b : Int)) = some (.int .u64 ((a ||| b : Nat) : Int)) := by
  rw [biOr]
  show some (D.int .u64 (IntKind.u64.wrap ((BitVec.ofInt 64 (a : Int) ||| BitVec.ofInt 64 (b : Int)).toNat : Int))) = _
  rw [BitVec.toNat_or, toNat_ofInt, toNat_ofInt, Nat.mod_eq_of_lt ha, Nat.mod_eq_of_lt hb, u64_nat (Nat.or_lt_two_pow ha hb)]
theorem shr_nat {a i : Nat} (hi : i ≤ 64) : binI .shr (.int .u64 (a : Int)) (.int .i64 (i : Int)) = some (.int .u64 ((a / 2 ^ i : Nat) : Int)) := by
  rw [biShr _ _ _ _ (by omega), Int.toNat_natCast, show IntKind.u64.bits = 64 from rfl, Nat.min_eq_left hi, Int.fdiv_eq_ediv_of_nonneg _ (Int.le_of_lt (Int.pow_pos (by decide)))]
  simp
theorem shl_nat {a i : Nat} (hi : i ≤ 64) (h : a * 2 ^ i < 2 ^ 64) : binI .shl (.int .u64 (a : Int)) (.int .i64 (i : Int)) = some (.int .u64 ((a * 2 ^ i : Nat) : Int)) := by
  rw [biShl _ _ _ _ (by omega), Int.toNat_natCast, show IntKind.u64.bits = 64 from rfl, Nat.min_eq_left hi]
  have e : (a : Int) * 2 ^ i = ((a * 2 ^ i : Nat) : Int) := by simp
  rw [e, u64_nat h]
theorem or_add {a b i : Nat} (h : a < 2 ^ i) : a ||| (b * 2 ^ i) = a + b * 2 ^ i := by
  have := Nat.two_pow_add_eq_or_of_lt h b
  rw [Nat.or_comm, Nat.mul_comm b, ← this, Nat.add_comm]
theorem u64_cast (n : Int) : IntKind.u64.wrap n = (((n % 18446744073709551616).toNat : Nat) : Int) := by rw [u64_wrap]; omega
section
variable {E : Env} {w0 : World}
theorem wire_Fixed_ok {u : Int} {s : Nat} (h1 : 1 ≤ s) (h8 : s ≤ 8) : Pure Try.prog E w0 f_wire_Fixed [.int .u64 u, .int .i64 (s : Int)] (bD (fixS u s)) := fun x S0 => by
  refine V_wire_Fixed_ok ?_
  unfold V_wire_Fixed
  have c1 : decide ((s : Int) < 1) = false := decide_eq_false (by omega)
  have c2 : decide ((s : Int) > 8) = false := decide_eq_false (by omega)
  simp only [biLt, biGt, oD, c1, c2, wdB, beq_self_eq_true, vdT, pdB, Bool.false_eq_true, if_false, cdF]
  refine makeL (by omega) fun k acs hk => ?_
  refine loop_wire_Fixed_0 (I := fun n x0 x5 x15 x16 S => ∃ (acs : List AV) (i : Nat), i + n = s ∧ x0 = .int .u64 u ∧ x5 = .raw k 0 s s true 1 ∧ x15 = .int .i64 (s : Int) ∧ x16 = .int .i64 (i : Int) ∧
      S = S0.set k ⟨1, ones ((fixS u i ++ List.replicate n 0).map (D.int .u8)), acs⟩) ?_ (n := s) ⟨acs, 0, by omega, rfl, rfl, rfl, rfl, by simp [fixS, ones]⟩
  rintro n _ _ _ _ _ ⟨acs, i, hi, rfl, rfl, rfl, rfl, rfl⟩
  unfold B_wire_Fixed_0
  rw [biLt, oD, cdI]
  refine ⟨fun hlt => ?_, fun hge => ?_⟩
  · obtain ⟨n, rfl⟩ : ∃ m, n = m + 1 := ⟨n - 1, by omega⟩
    rw [biMul, oD, wrap_i64 (by omega) (by omega), biShr _ _ _ _ (by omega), oD, cvI, oD, idxR (by omega), oD, Nat.zero_add]
    have hb : IntKind.u8.wrap (u.fdiv (2 ^ (min (8 * (i : Int)).toNat IntKind.u64.bits))) = byteAt u i := by
      rw [u8_wrap, show (8 * (i : Int)).toNat = 8 * i by omega, show IntKind.u64.bits = 64 from rfl, Nat.min_eq_left (by omega), Int.fdiv_eq_ediv_of_nonneg _ (Int.le_of_lt (Int.pow_pos (by decide)))]
      rfl
    rw [hb]
    have hf : fixS u (i + 1) = fixS u i ++ [byteAt u i] := by simp [fixS, List.range_succ]
    have hl := fixS_length u i
    refine stR (DSt.set_same _ _ _) (ones_get (d := .int .u8 0) ?_) (clI _ _) ⟨rfl, by omega, by simp⟩ fun acs' => ?_
    · rw [List.getElem?_map, List.getElem?_append, if_neg (by omega), hl, Nat.sub_self]
      rfl
    · rw [biAdd, oD, wrap_i64 (by omega) (by omega)]
      refine ⟨n, by omega, acs', i + 1, by omega, rfl, rfl, rfl, rfl, ?_⟩
      rw [DSt.set_set]
      congr 2
      show (ones _).set i [.int .u8 (byteAt u i)] = _
      rw [ones_set, ← List.map_set, hf, List.append_assoc]
      congr 2
      rw [List.set_append, if_neg (by omega), hl, Nat.sub_self]
      rfl
  · obtain rfl : i = s := by omega
    obtain rfl : n = 0 := by omega
    refine FinD.frz hk ?_
    rw [frz_raw (by simp [fixS_length]) (Nat.le_refl _)]
    have : ((ones ((fixS u i ++ List.replicate 0 0).map (D.int .u8))).drop 0).take i = ones ((fixS u i).map (D.int .u8)) := by
      simp only [List.replicate_zero, List.append_nil, List.drop_zero]
      exact List.take_of_length_le (by simp [fixS_length])
    rw [this]
    exact FinD.pure
end
end Go.Proofs.Ytcboaonbfgjmgaa.d
end
