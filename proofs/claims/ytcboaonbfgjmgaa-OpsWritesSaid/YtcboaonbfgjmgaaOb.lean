/-
  Instructions: Fixed, put, number, layout.
-/
import Derived.Test.YtcboaonbfgjmgaaOa
open Go.Proofs Go Go.Am
namespace Go.Proofs.Ytcboaonbfgjmgaa.op
open Go.Proofs.Ytcboaonbfgjmgaa.vb
set_option linter.unusedVariables false
set_option linter.unusedSimpArgs false
set_option maxRecDepth 100000

variable {E : Env} {w0 : World}

def byteAt (n : Int) (i : Nat) : Int := (n / 2 ^ (8 * i)) % 256
/-- A number's lowest bytes. -/
def fixS (n : Int) (size : Nat) : List Int := (List.range size).map (byteAt n)
def bys (l : List Int) : List AV := l.map (AV.int .u8)
theorem bys_length (l : List Int) : (bys l).length = l.length := by simp [bys]
theorem bys_append (a b : List Int) : bys (a ++ b) = bys a ++ bys b := by simp [bys]
theorem bys_scalar (l : List Int) : (bys l).all Am.scalar = true := by
  rw [List.all_eq_true]
  intro x hx
  obtain ⟨y, _, rfl⟩ := List.mem_map.1 hx
  rfl
theorem bys_inj {a b : List Int} (h : bys a = bys b) : a = b := by
  have := congrArg (List.map fun x : AV => match x with | .int _ n => n | _ => 0) h
  simpa [bys, Function.comp_def] using this
theorem fixS_length (n : Int) (s : Nat) : (fixS n s).length = s := by simp [fixS]
theorem byteAt_wrap (n : Int) {i : Nat} (hi : i < 8) : byteAt (n % 18446744073709551616) i = byteAt n i := by
  have h : i = 0 ∨ i = 1 ∨ i = 2 ∨ i = 3 ∨ i = 4 ∨ i = 5 ∨ i = 6 ∨ i = 7 := by omega
  rcases h with rfl | rfl | rfl | rfl | rfl | rfl | rfl | rfl <;> simp [byteAt] <;> omega
theorem fixS_wrap (n : Int) {s : Nat} (hs : s ≤ 8) : fixS (n % 18446744073709551616) s = fixS n s := by
  unfold fixS
  refine List.map_congr_left fun i hi => byteAt_wrap n ?_
  have := List.mem_range.1 hi
  omega

theorem mk_27 (H : AHeap) (n : Int) : makeSliceA Try.prog H 27 (.int .i64 n) (.int .i64 n) = if IntKind.i64.wrap n = n ∧ IntKind.i64.wrap n = n ∧ 0 ≤ n ∧ n ≤ n ∧ ((1 : Nat) : Int) * n ≤ 2 ^ 47 ∧ 1 = 1 then
    some (.slc (.new H.next) 0 n.toNat n.toNat true 1, newCells H (rep [.int .u8 0] n.toNat)) else none := by kernel_rfl
theorem rep_one (z : AV) : ∀ n, rep [z] n = List.replicate n z
  | 0 => rfl
  | n + 1 => by rw [rep, rep_one z n]; rfl
theorem shr_114 (x y : Int) : binA Try.prog .shr 114 (.int .u64 x) (.int .i64 y) = if y < 0 then none else some (.int .u64 (x.fdiv (2 ^ (min y.toNat 64)))) := by kernel_rfl

theorem storesW {H H2 : AHeap} {t : TypeId} {b n : Nat} {x : AV} {K : AV → AHeap → Prop} (hs : sizeA Try.prog t = some x.cells.length) (h : storeRange H (.new b) n x.cells = some H2) (hk : K undefA H2) : storeW Try.prog H t (.ptr (.new b) n) x K := by
  unfold storeW
  simp only [hs, if_true, h]
  exact hk
theorem sz_5 {n : Int} : sizeA Try.prog 5 = some (AV.int .u8 n).cells.length := by kernel_rfl

/-- A slice of bytes, at an object. -/
def Bs (H : AHeap) (v : AV) (bs : List Int) (k : Nat) : Prop :=
  (v = .nilSlc ∧ bs = []) ∨ ∃ cap ex all pre, v = .slc (.new k) 0 bs.length cap ex 1 ∧ H.get k = some (.cells all true pre) ∧ all.take bs.length = bys bs ∧ bs.length ≤ cap

section
variable {H H' H1 : AHeap} {X Y : Nat → Prop} {bs ms : List Int} {v b : AV} {k : Nat}
theorem Bs.len (h : Bs H v bs k) (H2 : AHeap) : lenV Try.prog H2 27 v = some (.int .i64 bs.length) := by
  rcases h with ⟨rfl, rfl⟩ | ⟨cap, ex, all, pre, rfl, _⟩
  · exact len0_27 _
  · exact len_27 ..
theorem Bs.keep (h : Bs H v bs k) (hk : ∀ all pre, H.get k = some (.cells all true pre) → H'.get k = some (.cells all true pre)) : Bs H' v bs k := by
  rcases h with h | ⟨cap, ex, all, pre, e, a, b⟩
  · exact .inl h
  · exact .inr ⟨cap, ex, all, pre, e, hk _ _ a, b⟩
theorem Bs.lt (h : Bs H v bs k) (F : Fine H) (h0 : bs ≠ []) : k < H.next := by
  rcases h with ⟨_, h⟩ | ⟨cap, ex, all, pre, e, a, b⟩
  · exact (h0 h).elim
  · exact F.lt a

theorem fixed_ok (F : Fine H) {u : Int} (h0 : 0 ≤ u) {s : Nat} (h1 : 1 ≤ s) (h8 : s ≤ 8) : FnX Try.prog E w0 66 [.int .u64 u, .int .i64 (s : Int)] H fun v H' =>
    ∃ k pre, v = .slc (.new k) 0 s s true 1 ∧ k = H.next ∧ H'.get k = some (.cells (bys (fixS u s)) true pre) ∧ Stays H H' := by
  refine V66_ok ?_
  unfold V66
  have c1 : decide ((s : Int) < 1) = false := decide_eq_false (by omega)
  have c2 : decide ((s : Int) > 8) = false := decide_eq_false (by omega)
  simp only [bin_lss, oS, c1, wB, bff, vT, bin_gtr, c2, pB, Bool.false_eq_true, if_false, cF]
  rw [mk_27, if_pos ⟨wrap_i64 (by omega) (by omega), wrap_i64 (by omega) (by omega), by omega, by omega, by omega, rfl⟩, o2S, rep_one]
  simp only [Int.toNat_natCast]
  obtain ⟨n1, n2, n3, F2⟩ := F.newCells (List.replicate s (AV.int .u8 0))
  refine loop66_0 (I := fun n t0 t5 t15 t16 H' => t0 = .int .u64 u ∧ t5 = .slc (.new H.next) 0 s s true 1 ∧ t15 = .int .i64 (s : Int) ∧ ∃ i : Nat, t16 = .int .i64 (i : Int) ∧ i + n = s ∧ Fine H' ∧ Stays H H' ∧
      ∃ pre, H'.get H.next = some (.cells (bys (fixS u i) ++ List.replicate n (AV.int .u8 0)) true pre)) ?_ (n := s)
    ⟨rfl, rfl, rfl, 0, rfl, by omega, F2, n2, [], n1⟩
  rintro n _ _ _ _ H3 ⟨rfl, rfl, rfl, i, rfl, hi, F3, s3, pre, g3⟩
  intros
  unfold B66_0
  rw [bin_lss, oS, condW_bool]
  refine ⟨fun hlt => ?_, fun hge => ?_⟩
  · have hlt : i < s := by have := of_decide_eq_true hlt; omega
    rw [bin_mul, oS, wrap_i64 (by omega) (by omega), shr_114, if_neg (by omega), oS, cv_114_5, oS, ix_27, if_pos ⟨by omega, by omega⟩, oS]
    simp only [Nat.zero_add, Int.toNat_natCast, Nat.mul_one]
    obtain ⟨H4, p1, p2, p3, p4, F4⟩ := F3.store g3 (n := i) (x := .int .u8 (byteAt u i)) (by simp [bys_length, fixS_length]; omega) rfl
    have hb : IntKind.u8.wrap (u.fdiv (2 ^ (min (8 * (i : Int)).toNat 64))) = byteAt u i := by
      rw [u8_wrap, show (8 * (i : Int)).toNat = 8 * i by omega, Nat.min_eq_left (by omega), Int.fdiv_eq_ediv_of_nonneg _ (Int.le_of_lt (Int.pow_pos (by decide)))]
      rfl
    rw [hb]
    refine storesW sz_5 p1 ?_
    rw [bin_add, oS, wrap_i64 (by omega) (by omega)]
    refine ⟨n - 1, by omega, rfl, rfl, rfl, rfl, i + 1, by simp, by omega, F4, ?_, [], ?_⟩
    · intro j all pr hj
      have := F.lt hj
      exact p3 j all pr (by omega) (s3 j all pr hj)
    · rw [p2]
      congr 2
      obtain ⟨n', rfl⟩ : ∃ n', n = n' + 1 := ⟨n - 1, by omega⟩
      rw [List.set_append_right _ _ (by simp [bys_length, fixS_length]), bys_length, fixS_length, Nat.sub_self, List.replicate_succ, List.set_cons_zero, Nat.add_sub_cancel]
      have : fixS u (i + 1) = fixS u i ++ [byteAt u i] := by simp [fixS, List.range_succ]
      rw [this, bys_append, List.append_assoc]
      rfl
  · have hge : ¬ (i : Int) < s := of_decide_eq_false hge
    obtain rfl : n = 0 := by omega
    obtain rfl : i = s := by omega
    exact ⟨H.next, pre, rfl, rfl, by simpa using g3, s3⟩

/-- An append of bytes. -/
theorem app_bytes (F : Fine H) (h : Bs H b bs k) {m : AV} (hm : lenOfA m = some ms.length ∧ firstA E H 1 ms.length m = some (bys ms)) (h0 : ms ≠ []) (hl : bs.length + ms.length < 2 ^ 40) :
    ∃ r H', appendA Try.prog E H 27 b 27 m = some (r, H') ∧ Bs H' r (bs ++ ms) H.next ∧ Keeps (fun j => j ≠ k) H H' ∧ H'.next = H.next + 1 ∧ Fine H' := by
  have hn : ms.length ≠ 0 := fun e => h0 (List.length_eq_zero_iff.1 e)
  rw [app_27_27, hm.1]
  simp only [Option.bind_some, hm.2]
  rcases h with ⟨rfl, rfl⟩ | ⟨cap, ex, all, pre, rfl, g, ht, hc⟩
  · obtain ⟨a, b, c, d⟩ := F.newCells (bys ms)
    refine ⟨.slc (.new H.next) 0 ms.length ms.length false 1, newCells H (bys ms), ?_, .inr ⟨_, _, _, _, rfl, a, ?_, Nat.le_refl _⟩, Keeps.of b, c, d⟩
    · unfold growA
      rw [if_pos (by rw [bys_length, Nat.mul_one])]
      simp only
      rw [if_neg hn, if_pos ⟨by decide, by simp only [List.length_nil] at hl; omega⟩]
    · rw [List.nil_append, ← bys_length ms, List.take_length]
  · have hle : bs.length ≤ all.length := by
      have := congrArg List.length ht
      rw [List.length_take, bys_length] at this
      omega
    obtain ⟨H', q, e1, e2, e3, e4, e5⟩ := F.growN (E := E) (i := 0) (n := bs.length) (cap := cap) (sz := 1) (ex := ex) g (by omega) (bytes := 1) (m := ms.length) (bys ms) (by rw [bys_length, Nat.mul_one]) hn (bys_scalar ms) ⟨by decide, by omega⟩
    refine ⟨_, H', e1, .inr ⟨_, _, _, q, by rw [List.length_append], e3, ?_, by rw [List.length_append]; exact Nat.le_refl _⟩, Keeps.but e4 (fun _ h => h), e2, e5⟩
    rw [List.drop_zero, Nat.mul_one, ht, ← bys_append, ← bys_length (bs ++ ms), List.take_length]

theorem put_ok (F : Fine H) (h : Bs H b bs k) {m : AV} (hm : lenOfA m = some ms.length ∧ firstA E H 1 ms.length m = some (bys ms)) (h0 : ms ≠ []) (hl : bs.length + ms.length < 2 ^ 40) :
    FnX Try.prog E w0 41 [b, m] H fun v H' => Bs H' v (bs ++ ms) H.next ∧ Keeps (fun j => j ≠ k) H H' := by
  refine V41_ok ?_
  unfold V41
  obtain ⟨r, H1, e1, e2, e3, e4, e5⟩ := app_bytes F h hm h0 hl
  rw [e1, o2S]
  exact ⟨e2, e3⟩

theorem first_of {j : Nat} {pre : List Nat} {cap : Nat} {ex : Bool} (h : H.get j = some (.cells (bys ms) true pre)) : lenOfA (.slc (.new j) 0 ms.length cap ex 1) = some ms.length ∧ firstA E H 1 ms.length (.slc (.new j) 0 ms.length cap ex 1) = some (bys ms) := by
  refine ⟨rfl, ?_⟩
  unfold firstA
  simp only [Nat.mul_one, rangeOr, loadRange_new E h]
  split
  · rename_i hz; rw [List.length_eq_zero_iff.1 hz]; rfl
  · rw [if_pos (by rw [bys_length]; omega), List.drop_zero, ← bys_length ms, List.take_length]

theorem number_ok (F : Fine H) (h : Bs H b bs k) (h0 : bs ≠ []) {fv : AV} {lo hi n : Int} (hm : MayAt (fun j => j ≠ k) H fv lo hi) (hn : I64 n) {s : Nat} (h1 : 1 ≤ s) (h8 : s ≤ 8) (hl : bs.length + s < 2 ^ 40) :
    FnX Try.prog E w0 42 [b, .agg [.int .i64 (s : Int), fv], .int .i64 n] H fun v H' => ∃ r k', v = .tup [r, .bool (decide (lo ≤ n ∧ n ≤ hi))] ∧ Bs H' r (bs ++ fixS n s) k' ∧ H.next ≤ k' ∧ Keeps (fun j => j ≠ k) H H' := by
  refine V42_ok ?_
  unfold V42
  have hk := h.lt F h0
  obtain ⟨a1, a2, a3, F1⟩ := F.newCells [AV.int .i64 (s : Int), fv]
  have hcl : AV.cells (.agg [.int .i64 (s : Int), fv]) = [.int .i64 (s : Int), fv] := rfl
  have l0 : ∀ {H2 : AHeap}, Keeps (fun j => j ≠ k) (newCells H [AV.int .i64 (s : Int), fv]) H2 → loadV Try.prog E H2 79 (.ptr (.new H.next) 1) = some fv := fun hs => by
    rw [ld_79, loadCell_new E (hs _ _ _ (by simp only; omega) a1)]; rfl
  have l1 : loadV Try.prog E (newCells H [AV.int .i64 (s : Int), fv]) 3 (.ptr (.new H.next) 0) = some (.int .i64 s) := by rw [ld_3, loadCell_new E a1]; rfl
  simp only [wW, hcl, cv_2_114, oS, fa_81_0, fa_81_1, Nat.zero_add, Nat.add_zero, l1, true_and, u64_wrap, l0 Keeps.refl]
  refine (fixed_ok F1 (by omega) h1 h8).use ?_
  rintro v H2 ⟨j, pre, rfl, hj, g2, s2⟩ F2 n2
  rw [fixS_wrap _ h8] at g2
  have hfl := fixS_length n s
  have hfm := first_of (E := E) (cap := s) (ex := true) (ms := fixS n s) g2
  rw [hfl] at hfm
  refine (put_ok F2 (h.keep fun all pre hg => s2 _ _ _ (a2 _ _ _ hg)) (ms := fixS n s) (by rw [hfl]; exact hfm) (fun e => by rw [e] at hfl; simp at hfl; omega) (by omega)).use ?_
  rintro v H3 ⟨hb, k3⟩ F3 n3
  have kk : Keeps (fun j => j ≠ k) (newCells H [AV.int .i64 (s : Int), fv]) H3 := Keeps.trans (Keeps.of s2) k3 F1 (fun _ _ h => h)
  simp only [l0 kk, l0 (Keeps.of s2), oS, true_and, and_true]
  have k4 : Keeps (fun j => j ≠ k) H H3 := Keeps.trans (Keeps.of a2) kk F (fun _ _ h => h)
  refine may_ok (hm.keep k4) hn ?_
  exact ⟨_, _, rfl, hb, by omega, k4⟩
end

/-- A number behind an Op. -/
structure Fd where
  size : Nat
  lo : Int
  hi : Int
  deriving DecidableEq

/-- Fields. -/
def FieldsAt (X : Nat → Prop) (H : AHeap) (lv : AV) (l : List Fd) : Prop :=
  (lv = .nilSlc ∧ l = []) ∨ ∃ k cap ex all pre, lv = .slc (.new k) 0 l.length cap ex 2 ∧ H.get k = some (.cells all true pre) ∧ X k ∧
    ∀ j f, l[j]? = some f → ∃ fv, (all.drop (j * 2)).take 2 = [.int .i64 (f.size : Int), fv] ∧ MayAt X H fv f.lo f.hi
section
variable {H H' H1 : AHeap} {X Y : Nat → Prop} {lv : AV} {l : List Fd}
theorem FieldsAt.keep (h : FieldsAt X H lv l) (hk : Keeps X H H') : FieldsAt X H' lv l := by
  rcases h with h | ⟨k, cap, ex, all, pre, e, g, x, hf⟩
  · exact .inl h
  · refine .inr ⟨k, cap, ex, all, pre, e, hk _ _ _ x g, x, fun j f hj => ?_⟩
    obtain ⟨fv, a, b⟩ := hf j f hj
    exact ⟨fv, a, b.keep hk⟩
theorem FieldsAt.less (h : FieldsAt X H lv l) (F : Fine H) (hxy : ∀ k, k < H.next → X k → Y k) : FieldsAt Y H lv l := by
  rcases h with h | ⟨k, cap, ex, all, pre, e, g, x, hf⟩
  · exact .inl h
  · refine .inr ⟨k, cap, ex, all, pre, e, g, hxy _ (F.lt g) x, fun j f hj => ?_⟩
    obtain ⟨fv, a, b⟩ := hf j f hj
    exact ⟨fv, a, b.less F hxy⟩
theorem FieldsAt.len (h : FieldsAt X H lv l) (H2 : AHeap) : lenV Try.prog H2 75 lv = some (.int .i64 l.length) := by
  rcases h with ⟨rfl, rfl⟩ | ⟨k, cap, ex, all, pre, rfl, _⟩
  · exact len0_75 _
  · exact len_75 ..
/-- A field of theirs. -/
theorem FieldsAt.at (h : FieldsAt X H lv l) {j : Nat} {f : Fd} (hj : l[j]? = some f) : ∃ p fv, indexAtA Try.prog 75 lv (.int .i64 (j : Int)) = some p ∧ loadV Try.prog E H 81 p = some (.agg [.int .i64 (f.size : Int), fv]) ∧ MayAt X H fv f.lo f.hi := by
  have hlt : j < l.length := (List.getElem?_eq_some_iff.1 hj).1
  rcases h with ⟨rfl, rfl⟩ | ⟨k, cap, ex, all, pre, rfl, g, x, hf⟩
  · simp at hj
  · obtain ⟨fv, a, b⟩ := hf j f hj
    refine ⟨.ptr (.new k) (j * 2), fv, ?_, ?_, b⟩
    · rw [ix_75, if_pos ⟨by omega, by omega⟩]; simp
    · have hl := congrArg List.length a
      simp only [List.length_take, List.length_drop, List.length_cons, List.length_nil] at hl
      rw [ld_81, loadRange_new E g, if_pos (by omega), a]
      rfl
end
end Go.Proofs.Ytcboaonbfgjmgaa.op
