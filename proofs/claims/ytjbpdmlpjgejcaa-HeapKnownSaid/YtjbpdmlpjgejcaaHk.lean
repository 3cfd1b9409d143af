/-
  HeapKnown: the examples of the chapter, and what bounds ask.
-/
import Derived.Test.YtjbpdmlpjgejcaaRows
import Derived.Test.YtjbpdmlpjgejcaaAm36
import Derived.Test.YtjbpdmlpjgejcaaVk
import Derived.Test.YtjbpdmlpjgejcaaDHv
open Go.Proofs Go Go.Am
namespace Go.Proofs.Ytjbpdmlpjgejcaa.heapKnown
open Go.Proofs.Ytjbpdmlpjgejcaa.vcs Go.Proofs.Ytjbpdmlpjgejcaa.vk Go.Proofs.Ytjbpdmlpjgejcaa.hp
open Go.Proofs.Ytjbpdmlpjgejcaa.vd (nev_3 nev_23)
set_option linter.unusedVariables false
set_option linter.unusedSimpArgs false
set_option maxRecDepth 100000

variable {E : Env} {w0 : World}

theorem works_ok {H : AHeap} : FnX Try.prog E w0 10 [] H fun v H' => v = .bool true := by
  have h : (callFA Try.prog (fun _ => none) noOv 200 10 [] AHeap.empty).map (·.1) = some (.bool true) := by kernel_rfl
  cases hr : callFA Try.prog (fun _ => none) noOv 200 10 [] AHeap.empty with
  | none => rw [hr] at h; cases h
  | some r =>
    obtain ⟨v, H1⟩ := r
    rw [hr] at h
    simp only [Option.map_some, Option.some.injEq] at h
    subst h
    refine (fnX_pure vcs.mixed hr ?_ ?_).mono fun v' H' h => h.1
    · intro ρ vs h
      exact h
    · intro ρ ρ' u h
      exact h

/-- A heap holds these things. -/
def St (H : AHeap) (kh : Nat) (L : List Th) (u lim : Int) : Prop :=
  Fine H ∧ Fits L u ∧ 0 ≤ u ∧ u ≤ lim ∧ lim < 2 ^ 40 ∧ ∃ lv tvs own, Rp H kh lv tvs L u lim own

section
variable {H H' : AHeap} {kh : Nat} {L : List Th} {u lim : Int}

theorem St.short (S : St H kh L u lim) : Short L := by
  obtain ⟨_, hf, _, _, _, _⟩ := S
  exact Fits.short (limit := lim) hf (by omega)
theorem St.fine (S : St H kh L u lim) : Fine H := S.1
theorem St.stays (S : St H kh L u lim) (F : Fine H') (s : Stays H H') (hn : H.next ≤ H'.next) : St H' kh L u lim := by
  obtain ⟨_, a, b, c, d, lv, tvs, own, R⟩ := S
  exact ⟨F, a, b, c, d, lv, tvs, own, R.frame (fun k all pre _ h => s k all pre h) hn⟩
/-- A call of a script's has been. -/
theorem St.next (S : St H kh L u lim) {own : Own} (o : OpA) {r : (Int × Int) × List Th × Int} (hr : stepS L u lim o = r) (F : Fine H') (h : Now own H H' kh r.2.1 r.2.2 lim) : St H' kh r.2.1 r.2.2 lim := by
  obtain ⟨_, a, b, c, d, _⟩ := S
  have hs := stepS_ok a b c o
  rw [hr] at hs
  obtain ⟨lv, tvs, own', R, _⟩ := h
  exact ⟨F, hs.fits, by have := hs.up; omega, hs.lim, d, lv, tvs, own', R⟩

theorem s_new (F : Fine H) {n : Int} : FnX Try.prog E w0 11 [.int .i64 n] H fun v H' => v = .ptr (.new H.next) 0 ∧ St H' H.next [] 0 (cap0 n) := by
  refine (new_ok F).use ?_
  rintro v H' ⟨rfl, R, s, n1⟩ F' _
  have hr := R.range
  have : cap0 n < 2 ^ 40 := by unfold cap0; split <;> (try split) <;> omega
  exact ⟨rfl, F', fun th h => by simp at h, by omega, by omega, this, _, _, _, R⟩

theorem s_const (S : St H kh L u lim) (hlim : L.length + 1 < 2 ^ 40) {s : List UInt8} : FnX Try.prog E w0 28 [.ptr (.new kh) 0, .str s] H fun v H' => v = .int .u64 (L.length + 1 : Nat) ∧ St H' kh (L ++ [.text s]) u lim := by
  obtain ⟨F, a, b, c, d, lv, tvs, own, R⟩ := id S
  refine (const_ok F R hlim).use ?_
  rintro v H' ⟨rfl, h⟩ F' _
  exact ⟨rfl, S.next ⟨0, s, 0, 0, .nilSlc, [], 0, 0, 0⟩ rfl F' h⟩

theorem s_text (S : St H kh L u lim) (hlim : L.length + 1 < 2 ^ 40) {s : List UInt8} {r : (Int × Int) × List Th × Int} (h : stepS L u lim ⟨1, s, 0, 0, .nilSlc, [], 0, 0, 0⟩ = r) :
    FnX Try.prog E w0 29 [.ptr (.new kh) 0, .str s] H fun v H' => v = .tup [.int .u64 r.1.1, .int .i64 r.1.2] ∧ St H' kh r.2.1 r.2.2 lim := by
  obtain ⟨F, a, b, c, d, lv, tvs, own, R⟩ := id S
  refine (text_ok F R hlim).use ?_
  intro v H' hm F' _
  have e : stepS L u lim ⟨1, s, 0, 0, .nilSlc, [], 0, 0, 0⟩ = if 65536 < s.length then ((0, 3), L, u) else makeS L u lim (.text s) (textCost s) := rfl
  by_cases hl : 65536 < s.length
  · rw [if_pos hl] at hm e
    rw [h] at e
    subst e
    exact ⟨hm.1, S.next _ h F' hm.2⟩
  · rw [if_neg hl] at hm e
    rw [h] at e
    subst e
    have hm := makes_steps hm
    exact ⟨hm.1, S.next _ h F' hm.2⟩

theorem s_fill (S : St H kh L u lim) (hlim : L.length + 1 < 2 ^ 40) {t n w : Int} {r : (Int × Int) × List Th × Int} (h : stepS L u lim ⟨3, [], t, n, .nilSlc, [], 0, 0, w⟩ = r) :
    FnX Try.prog E w0 30 [.ptr (.new kh) 0, .int .i64 t, .int .i64 n, .int .u64 w] H fun v H' => v = .tup [.int .u64 r.1.1, .int .i64 r.1.2] ∧ St H' kh r.2.1 r.2.2 lim := by
  obtain ⟨F, a, b, c, d, lv, tvs, own, R⟩ := id S
  refine (fill_ok F R hlim).use ?_
  intro v H' hm F' _
  have e : stepS L u lim ⟨3, [], t, n, .nilSlc, [], 0, 0, w⟩ = if n < 0 ∨ n > 65536 then ((0, 3), L, u) else makeS L u lim (.flat t (List.replicate n.toNat w)) (1 + n) := rfl
  by_cases hl : n < 0 ∨ n > 65536
  · rw [if_pos hl] at hm e
    rw [h] at e
    subst e
    exact ⟨hm.1, S.next _ h F' hm.2⟩
  · rw [if_neg hl] at hm e
    rw [h] at e
    subst e
    have hm := makes_steps hm
    exact ⟨hm.1, S.next _ h F' hm.2⟩

theorem s_empty (S : St H kh L u lim) (hlim : L.length + 1 < 2 ^ 40) {t : Int} {r : (Int × Int) × List Th × Int} (h : stepS L u lim ⟨4, [], t, 0, .nilSlc, [], 0, 0, 0⟩ = r) :
    FnX Try.prog E w0 15 [.ptr (.new kh) 0, .int .i64 t] H fun v H' => v = .tup [.int .u64 r.1.1, .int .i64 r.1.2] ∧ St H' kh r.2.1 r.2.2 lim := by
  obtain ⟨F, a, b, c, d, lv, tvs, own, R⟩ := id S
  refine (empty_ok F R hlim).use ?_
  intro v H' hm F' _
  have e : stepS L u lim ⟨4, [], t, 0, .nilSlc, [], 0, 0, 0⟩ = makeS L u lim (.grow t []) 1 := rfl
  rw [h] at e
  subst e
  have hm := makes_steps hm
  exact ⟨hm.1, S.next _ h F' hm.2⟩

theorem bs_22 (H : AHeap) (a b : Int) : buildSliceA Try.prog H 22 2 [(0, .int .u64 a), (1, .int .u64 b)] = some (.slc (.new H.next) 0 2 2 true 1, newCells H [.int .u64 a, .int .u64 b]) := by kernel_rfl
theorem adds_9 {a b : List UInt8} (h : a.length + b.length < 2 ^ 62) : binA Try.prog .add 9 (.str a) (.str b) = some (.str (a ++ b)) := by
  have e : binA Try.prog .add 9 (.str a) (.str b) = if ((a.length + b.length : Nat) : Int) ≤ IntKind.i64.max then some (.str (a ++ b)) else none := by kernel_rfl
  rw [e, if_pos (by rw [show IntKind.i64.max = 9223372036854775807 from rfl]; omega)]
theorem eqv_9 (x y : Operand) (a b : List UInt8) : binV Try.prog .eql 9 x y (.str a) (.str b) = some (.bool (a == b)) := eqv_str x y a b

theorem s_record (S : St H kh L u lim) (hlim : L.length + 1 < 2 ^ 40) {t a b : Int} {k : Nat} (hg : ∃ pre, H.get k = some (.cells [.int .u64 a, .int .u64 b] true pre)) {r : (Int × Int) × List Th × Int} (h : stepS L u lim ⟨2, [], t, 0, .nilSlc, [a, b], 0, 0, 0⟩ = r) :
    FnX Try.prog E w0 12 [.ptr (.new kh) 0, .int .i64 t, .slc (.new k) 0 2 2 true 1] H fun v H' => v = .tup [.int .u64 r.1.1, .int .i64 r.1.2] ∧ St H' kh r.2.1 r.2.2 lim := by
  obtain ⟨F, a', b', c, d, lv, tvs, own, R⟩ := id S
  obtain ⟨pre, hg⟩ := hg
  refine (record_gen F R hlim (ws := [a, b]) (fun H' => by simp) ⟨rfl, ?_⟩ (by simp)).use ?_
  · unfold firstA
    simp only [rangeOr, loadRange_new E hg]
    rfl
  intro v H' hm F' _
  have e : stepS L u lim ⟨2, [], t, 0, .nilSlc, [a, b], 0, 0, 0⟩ = makeS L u lim (.flat t [a, b]) (1 + ([a, b] : List Int).length) := rfl
  rw [h] at e
  subst e
  have hm := makes_steps hm
  exact ⟨hm.1, S.next _ h F' hm.2⟩

theorem s_get (S : St H kh L u lim) {ref i : Int} (h0 : 0 ≤ ref) (h1 : ref < 2 ^ 64) {r : Int × Int} (h : getW L ref i = r) :
    FnX Try.prog E w0 14 [.ptr (.new kh) 0, .int .u64 ref, .int .i64 i] H fun v H' => H' = H ∧ v = .tup [.int .u64 r.1, .int .i64 r.2] := by
  have hs := S.short
  obtain ⟨F, a, b, c, d, lv, tvs, own, R⟩ := S
  subst h
  exact get_ok R hs h0 h1
theorem s_set (S : St H kh L u lim) {ref i w : Int} (h0 : 0 ≤ ref) (h1 : ref < 2 ^ 64) {t : Int} {L' : List Th} (h : getW L ref i = (0, t) ∨ (getW L ref i).2 = t) (hL : setL L ref i w = L') :
    FnX Try.prog E w0 13 [.ptr (.new kh) 0, .int .u64 ref, .int .i64 i, .int .u64 w] H fun v H' => v = .int .i64 t ∧ St H' kh L' u lim := by
  have hs := S.short
  obtain ⟨F, a, b, c, d, lv, tvs, own, R⟩ := id S
  have ht : (getW L ref i).2 = t := by rcases h with h | h; · rw [h]
                                       · exact h
  refine (set_ok F R hs h0 h1).use ?_
  rintro v H' ⟨rfl, R1, ho1, hn1⟩ F' _
  rw [ht]
  refine ⟨rfl, ?_⟩
  have := S.next (own := own) ⟨6, [], 0, 0, .nilSlc, [], ref, i, w⟩ rfl F' (show Now own H H' kh (setL L ref i w) u lim from ⟨_, _, own, R1, fun _ _ => rfl, ho1⟩)
  rw [← hL]
  exact this
theorem s_push (S : St H kh L u lim) {ref w : Int} (h0 : 0 ≤ ref) (h1 : ref < 2 ^ 64) {t : Int} {L' : List Th} {u' : Int} (h : pushR L ref u lim = t) (hL : pushL L ref w u lim = L') (hu : pushU L ref u lim = u') :
    FnX Try.prog E w0 16 [.ptr (.new kh) 0, .int .u64 ref, .int .u64 w] H fun v H' => v = .int .i64 t ∧ St H' kh L' u' lim := by
  have hs := S.short
  obtain ⟨F, a, b, c, d, lv, tvs, own, R⟩ := id S
  refine (push_ok F R hs h0 h1).use ?_
  rintro v H' ⟨rfl, hn⟩ F' _
  subst h hL hu
  exact ⟨rfl, S.next ⟨7, [], 0, 0, .nilSlc, [], ref, 0, w⟩ rfl F' hn⟩
theorem s_drop (S : St H kh L u lim) {ref : Int} (h0 : 0 ≤ ref) (h1 : ref < 2 ^ 64) {r : Int × Int} {L' : List Th} (h : dropR L ref = r) (hL : dropL L ref = L') :
    FnX Try.prog E w0 18 [.ptr (.new kh) 0, .int .u64 ref] H fun v H' => v = .tup [.int .u64 r.1, .int .i64 r.2] ∧ St H' kh L' u lim := by
  have hs := S.short
  obtain ⟨F, a, b, c, d, lv, tvs, own, R⟩ := id S
  refine (drop_ok F R hs h0 h1).use ?_
  rintro v H' ⟨rfl, hn⟩ F' _
  subst h hL
  exact ⟨rfl, S.next ⟨8, [], 0, 0, .nilSlc, [], ref, 0, 0⟩ rfl F' hn⟩
theorem s_used (S : St H kh L u lim) : FnX Try.prog E w0 19 [.ptr (.new kh) 0] H fun v H' => H' = H ∧ v = .int .i64 u := by
  obtain ⟨F, a, b, c, d, lv, tvs, own, R⟩ := S
  exact used_ok R
theorem s_bytes (S : St H kh L u lim) {ref : Int} (h0 : 0 ≤ ref) (h1 : ref < 2 ^ 64) {r : List UInt8 × Bool} (h : textR L ref = r) : FnX Try.prog E w0 31 [.ptr (.new kh) 0, .int .u64 ref] H fun v H' => H' = H ∧ v = .tup [.str r.1, .bool r.2] := by
  obtain ⟨F, a, b, c, d, lv, tvs, own, R⟩ := S
  subst h
  exact bytes_ok R h0 h1
theorem s_len (S : St H kh L u lim) {ref : Int} (h0 : 0 ≤ ref) (h1 : ref < 2 ^ 64) {r : Int × Bool} (h : lenR L ref = r) : FnX Try.prog E w0 17 [.ptr (.new kh) 0, .int .u64 ref] H fun v H' => H' = H ∧ v = .tup [.int .i64 r.1, .bool r.2] := by
  obtain ⟨F, a, b, c, d, lv, tvs, own, R⟩ := S
  subst h
  exact len_ok R h0 h1
theorem s_type (S : St H kh L u lim) {ref : Int} (h0 : 0 ≤ ref) (h1 : ref < 2 ^ 64) {r : Int} (h : typeR L ref = r) : FnX Try.prog E w0 22 [.ptr (.new kh) 0, .int .u64 ref] H fun v H' => H' = H ∧ v = .int .i64 r := by
  obtain ⟨F, a, b, c, d, lv, tvs, own, R⟩ := S
  subst h
  exact type_ok R h0 h1
end
/-- The texts. -/
def abc : List UInt8 := [97, 98, 99]
def nine : List UInt8 := [97, 98, 99, 100, 101, 102, 103, 104, 105]

theorem known_ok {H : AHeap} : FnX Try.prog E w0 9 [] H fun v _ => v = .bool true := by
  refine fnX_fine fun F => ?_
  refine V9_ok ?_
  unfold V9
  refine (s_new F).use ?_
  rintro v H1 ⟨rfl, S⟩ _ _
  generalize H.next = kh at S
  rw [show cap0 10 = 10 from rfl] at S
  simp only [eqvn_25, oS, wB, bff, vT, gT]
  refine (s_const S (by decide)).use ?_
  rintro v H2 ⟨rfl, S⟩ _ _
  simp only [oS, nev_23, vT, pB, wB, bff, gT, List.length_nil, Nat.zero_add, List.nil_append, show (((1 : Nat) : Int) != 1) = false from rfl, Bool.false_eq_true, if_false]
  refine (s_used S).use ?_
  rintro v H3 ⟨rfl, rfl⟩ _ _
  simp only [oS, nev_3, vT, pB, wB, bff, Bool.false_eq_true, if_false, bne_self_eq_false, cF]
  refine (s_text S (by decide) (r := ((2, 0), [.text abc, .text nine], 3)) rfl).use ?_
  rintro v H4 ⟨rfl, S⟩ _ _
  simp only [ex0, ex1, oS]
  refine P9_5_ok ?_
  unfold P9_5
  obtain ⟨n1, n2, n3, F5⟩ := S.fine.newCells [AV.int .u64 5, .int .u64 6]
  rw [bs_22, o2S]
  have S := S.stays F5 n2 (by omega)
  refine (s_record S (by decide) ⟨_, n1⟩ (r := ((3, 0), [.text abc, .text nine, .flat 16 [5, 6]], 6)) rfl).use ?_
  rintro v H5 ⟨rfl, S⟩ _ _
  simp only [ex0, ex1, oS]
  refine (s_get S (by decide) (by decide) (r := (0, 2)) rfl).use ?_
  rintro v H6 ⟨rfl, rfl⟩ _ _
  simp only [ex0, ex1, oS]
  refine P9_7_ok ?_
  unfold P9_7
  simp only [oS, nev_23, nev_3, vT, pB, wB, bff, Bool.false_eq_true, if_false, bne_self_eq_false, gT]
  refine (s_used S).use ?_
  rintro v H7 ⟨rfl, rfl⟩ _ _
  simp only [oS, nev_23, nev_3, vT, pB, wB, bff, Bool.false_eq_true, if_false, bne_self_eq_false, gT]
  refine (s_set S (by decide) (by decide) (t := 0) (L' := [.text abc, .text nine, .flat 16 [9, 6]]) (.inr rfl) rfl).use ?_
  rintro v H8 ⟨rfl, S⟩ _ _
  simp only [oS, nev_23, nev_3, vT, pB, wB, bff, Bool.false_eq_true, if_false, bne_self_eq_false, gT, cF]
  refine P9_9_ok ?_
  unfold P9_9
  refine (s_empty S (by decide) (r := ((4, 0), [.text abc, .text nine, .flat 16 [9, 6], .grow 17 []], 7)) rfl).use ?_
  rintro v H9 ⟨rfl, S⟩ _ _
  simp only [ex0, ex1, oS, nev_23, nev_3, vT, pB, wB, bff, Bool.false_eq_true, if_false, bne_self_eq_false, gT]
  refine (s_push S (by decide) (by decide) (t := 0) (L' := [.text abc, .text nine, .flat 16 [9, 6], .grow 17 [1]]) (u' := 8) rfl rfl rfl).use ?_
  rintro v H10 ⟨rfl, S⟩ _ _
  simp only [oS, nev_3, vT, pB, wB, bff, Bool.false_eq_true, if_false, bne_self_eq_false, gT]
  refine (s_push S (by decide) (by decide) (t := 0) (L' := [.text abc, .text nine, .flat 16 [9, 6], .grow 17 [1, 2]]) (u' := 9) rfl rfl rfl).use ?_
  rintro v H11 ⟨rfl, S⟩ _ _
  simp only [oS, nev_3, vT, pB, wB, bff, Bool.false_eq_true, if_false, bne_self_eq_false, gT]
  refine (s_used S).use ?_
  rintro v H12 ⟨rfl, rfl⟩ _ _
  simp only [oS, nev_3, vT, pB, wB, bff, Bool.false_eq_true, if_false, bne_self_eq_false, gT]
  refine (s_push S (by decide) (by decide) (t := 0) (L' := [.text abc, .text nine, .flat 16 [9, 6], .grow 17 [1, 2, 3]]) (u' := 10) rfl rfl rfl).use ?_
  rintro v H13 ⟨rfl, S⟩ _ _
  simp only [oS, nev_3, vT, pB, wB, bff, Bool.false_eq_true, if_false, bne_self_eq_false, gT]
  refine (s_push S (by decide) (by decide) (t := 4) (L' := [.text abc, .text nine, .flat 16 [9, 6], .grow 17 [1, 2, 3]]) (u' := 10) rfl rfl rfl).use ?_
  rintro v H14 ⟨rfl, S⟩ _ _
  simp only [oS, nev_3, vT, pB, wB, bff, Bool.false_eq_true, if_false, bne_self_eq_false, cF]
  refine P9_12_ok ?_
  unfold P9_12
  refine (s_drop S (by decide) (by decide) (r := (3, 0)) (L' := [.text abc, .text nine, .flat 16 [9, 6], .grow 17 [1, 2]]) rfl rfl).use ?_
  rintro v H15 ⟨rfl, S⟩ _ _
  simp only [ex0, ex1, oS]
  refine (s_fill S (by decide) (r := ((0, 3), [.text abc, .text nine, .flat 16 [9, 6], .grow 17 [1, 2]], 10)) rfl).use ?_
  rintro v H16 ⟨rfl, S⟩ _ _
  simp only [ex0, ex1, oS]
  refine P9_14_ok ?_
  unfold P9_14
  refine (s_fill S (by decide) (r := ((0, 3), [.text abc, .text nine, .flat 16 [9, 6], .grow 17 [1, 2]], 10)) rfl).use ?_
  rintro v H17 ⟨rfl, S⟩ _ _
  simp only [ex0, ex1, oS]
  refine (s_fill S (by decide) (r := ((0, 4), [.text abc, .text nine, .flat 16 [9, 6], .grow 17 [1, 2]], 10)) rfl).use ?_
  rintro v H18 ⟨rfl, S⟩ _ _
  simp only [ex0, ex1, oS]
  refine P9_16_ok ?_
  unfold P9_16
  refine (s_get S (by decide) (by decide) (r := (0, 2)) rfl).use ?_
  rintro v H19 ⟨rfl, rfl⟩ _ _
  simp only [ex0, ex1, oS]
  refine (s_bytes S (by decide) (by decide) (r := ([], false)) rfl).use ?_
  rintro v H20 ⟨rfl, rfl⟩ _ _
  simp only [ex0, ex1, oS]
  refine P9_18_ok ?_
  unfold P9_18
  refine (s_bytes S (by decide) (by decide) (r := (abc, true)) rfl).use ?_
  rintro v H21 ⟨rfl, rfl⟩ _ _
  simp only [ex0, ex1, oS, eqv_23, eqv_3, vT, pB, wB, btt, if_true, beq_self_eq_true, gT]
  refine (s_push S (by decide) (by decide) (t := 4) (L' := [.text abc, .text nine, .flat 16 [9, 6], .grow 17 [1, 2]]) (u' := 10) rfl rfl rfl).use ?_
  rintro v H22 ⟨rfl, S⟩ _ _
  simp only [oS, eqv_3, vT, pB, wB, btt, if_true, beq_self_eq_true, gT]
  refine (s_push S (by decide) (by decide) (t := 2) (L' := [.text abc, .text nine, .flat 16 [9, 6], .grow 17 [1, 2]]) (u' := 10) rfl rfl rfl).use ?_
  rintro v H23 ⟨rfl, S⟩ _ _
  simp only [oS, eqv_3, vT, pB, wB, btt, if_true, beq_self_eq_true, gT]
  refine (s_type S (by decide) (by decide) (r := 5) rfl).use ?_
  rintro v H24 ⟨rfl, rfl⟩ _ _
  simp only [oS, eqv_3, vT, pB, wB, btt, if_true, beq_self_eq_true, gT]
  refine (s_type S (by decide) (by decide) (r := 0) rfl).use ?_
  rintro v H25 ⟨rfl, rfl⟩ _ _
  simp only [oS, eqv_3, eqv_9, vT, pB, wB, btt, if_true, beq_self_eq_true, gT, un_not, Bool.not_false, show (abc == [97, 98, 99]) = true from rfl]
  refine (s_type S (by decide) (by decide) (r := 17) rfl).use ?_
  rintro v H26 ⟨rfl, rfl⟩ F26 _
  simp only [oS, eqv_3, vT, pB, wB, btt, if_true, beq_self_eq_true]
  refine P9_20_ok ?_
  clear S
  unfold P9_20
  refine (s_new F26).use ?_
  rintro v H27 ⟨rfl, S⟩ _ _
  generalize H26.next = kg at S
  rw [show cap0 4611686018427387903 = 1048576 from rfl] at S
  refine loop9_2 (I := fun n t24 t25 t26 H' => t24 = .bool true ∧ t25 = .ptr (.new kg) 0 ∧ St H' kg [] 0 1048576 ∧ ∃ (s : List UInt8) (j : Nat), t26 = .str s ∧ s.length = 8 * 2 ^ j ∧ j + n = 13) ?_ (n := 13)
    ⟨rfl, rfl, S, _, 0, rfl, rfl, rfl⟩
  clear S
  rintro n _ _ _ H28 ⟨rfl, rfl, S, s, j, rfl, hs, hj⟩
  intros
  unfold B9_2
  rw [len_9, oS, bin_lss, oS, condW_bool]
  refine ⟨fun hlt => ?_, fun hge => ?_⟩
  · have hlt : (s.length : Int) < 65536 := of_decide_eq_true hlt
    have hn : n ≠ 0 := by
      rintro rfl
      obtain rfl : j = 13 := by omega
      omega
    rw [adds_9 (by omega), oS]
    exact ⟨n - 1, by omega, rfl, rfl, rfl, S, s ++ s, j + 1, rfl, by rw [List.length_append, hs]; omega, by omega⟩
  have hs : s.length = 65536 := by
    have hge : ¬ (s.length : Int) < 65536 := of_decide_eq_false hge
    have : 2 ^ j ≤ 2 ^ 13 := Nat.pow_le_pow_right (by decide) (by omega)
    omega
  refine P9_24_ok ?_
  unfold P9_24
  rw [adds_9 (by simp only [List.length_cons, List.length_nil]; omega), oS]
  refine (s_text S (by decide) (r := ((0, 3), [], 0)) (by show (if 65536 < (s ++ [120]).length then ((0, 3), [], 0) else makeS [] 0 1048576 (.text (s ++ [120])) (textCost (s ++ [120]))) = _; rw [if_pos (by rw [List.length_append, hs]; decide)])).use ?_
  rintro v H29 ⟨rfl, S⟩ _ _
  simp only [ex0, ex1, oS]
  refine (s_text S (by decide) (r := ((1, 0), [.text s], 8193)) (by show (if 65536 < s.length then ((0, 3), [], 0) else makeS [] 0 1048576 (.text s) (textCost s)) = _; rw [if_neg (by omega)]; unfold makeS textCost; rw [hs]; rfl)).use ?_
  rintro v H30 ⟨rfl, S⟩ _ _
  simp only [ex0, ex1, oS]
  refine P9_26_ok ?_
  unfold P9_26
  obtain ⟨fl, hfl⟩ : ∃ fl : List Int, fl = List.replicate 65536 7 := ⟨_, rfl⟩
  have hfn : fl.length = 65536 := by rw [hfl, List.length_replicate]
  refine (s_fill S (show 1 + 1 < 2 ^ 40 by decide) (r := ((2, 0), [.text s, .flat 18 fl], 73730)) (by show (if (65536 : Int) < 0 ∨ (65536 : Int) > 65536 then ((0, 3), [.text s], (8193 : Int)) else makeS [.text s] 8193 1048576 (.flat 18 (List.replicate (65536 : Int).toNat 7)) (1 + 65536)) = _; rw [if_neg (by decide), show (65536 : Int).toNat = 65536 from rfl, ← hfl]; rfl)).use ?_
  rintro v H31 ⟨rfl, S⟩ _ _
  simp only [ex0, ex1, oS]
  refine (s_empty S (show 2 + 1 < 2 ^ 40 by decide) (r := ((3, 0), [.text s, .flat 18 fl, .grow 17 []], 73731)) rfl).use ?_
  rintro v H32 ⟨rfl, S⟩ _ _
  simp only [ex0, ex1, oS]
  refine loop9_1 (I := fun n t24 t25 t28 t30 t31 t32 t33 t35 H' => t24 = .bool true ∧ t25 = .ptr (.new kg) 0 ∧ t28 = .int .i64 3 ∧ t30 = .int .i64 0 ∧ t31 = .int .u64 2 ∧ t32 = .int .i64 0 ∧ t33 = .int .u64 3 ∧
      ∃ (ws : List Int) (i : Nat), t35 = .int .i64 (i : Int) ∧ ws.length = i ∧ i + n = 65536 ∧ St H' kg [.text s, .flat 18 fl, .grow 17 ws] (73731 + i) 1048576) ?_ (n := 65536)
    ⟨rfl, rfl, rfl, rfl, rfl, rfl, rfl, [], 0, rfl, rfl, rfl, by rw [show (73731 : Int) + ((0 : Nat) : Int) = 73731 from rfl]; exact S⟩
  clear S
  rintro n _ _ _ _ _ _ _ _ H33 ⟨rfl, rfl, rfl, rfl, rfl, rfl, rfl, ws, i, rfl, hw, hi, S⟩
  intros
  unfold B9_1
  rw [bin_lss, oS, condW_bool]
  have hg : growAt [.text s, .flat 18 fl, .grow 17 ws] 3 = some (17, ws) := rfl
  refine ⟨fun hlt => ?_, fun hge => ?_⟩
  · have hlt : (i : Int) < 65536 := of_decide_eq_true hlt
    refine (s_push S (by decide) (by decide) (t := 0) (L' := [.text s, .flat 18 fl, .grow 17 (ws ++ [1])]) (u' := 73731 + i + 1) ?_ ?_ ?_).use ?_
    · unfold pushR; rw [hg]; simp only; rw [if_neg (by omega), if_pos (by omega)]
    · unfold pushL; rw [hg]; simp only; rw [if_neg (by omega), if_pos (by omega)]; rfl
    · unfold pushU; rw [hg]; simp only; rw [if_neg (by omega), if_pos (by omega)]
    rintro v H34 ⟨rfl, S⟩ _ _
    simp only [nev_3, bne_self_eq_false, oS, cF, bin_add]
    rw [wrap_i64 (by omega) (by omega)]
    exact ⟨n - 1, by omega, rfl, rfl, rfl, rfl, rfl, rfl, rfl, rfl, ws ++ [1], i + 1, by simp, by simp [hw], by omega, by rw [show (73731 : Int) + ((i + 1 : Nat) : Int) = 73731 + i + 1 by omega]; exact S⟩
  have hge : ¬ (i : Int) < 65536 := of_decide_eq_false hge
  obtain rfl : i = 65536 := by omega
  rw [show (73731 : Int) + ((65536 : Nat) : Int) = 139267 from rfl] at S
  refine P9_33_ok ?_
  unfold P9_33
  refine (s_get S (by decide) (by decide) (r := (7, 0)) ?_).use ?_
  · have : (thAt [.text s, .flat 18 fl, .grow 17 ws] 2).bind Th.words = some fl := rfl
    unfold getW
    rw [this]
    simp only
    rw [if_pos ⟨by decide, by rw [hfn]; decide⟩, hfl, List.getD_eq_getElem?_getD, List.getElem?_replicate]
    rfl
  rintro v H35 ⟨rfl, rfl⟩ _ _
  simp only [ex0, ex1, oS]
  refine (s_len S (by decide) (by decide) (r := (65536, true)) ?_).use ?_
  · have : thAt [.text s, .flat 18 fl, .grow 17 ws] 3 = some (.grow 17 ws) := rfl
    unfold lenR
    rw [this]
    simp only
    rw [hw]
    rfl
  rintro v H36 ⟨rfl, rfl⟩ _ _
  simp only [ex0, ex1, oS]
  refine P9_35_ok ?_
  unfold P9_35
  simp only [oS, eqv_23, eqv_3, vT, pB, wB, btt, if_true, beq_self_eq_true, gT]
  refine (s_push S (by decide) (by decide) (t := 3) (L' := [.text s, .flat 18 fl, .grow 17 ws]) (u' := 139267) ?_ ?_ ?_).use ?_
  · unfold pushR; rw [hg]; simp only; rw [if_pos hw]
  · unfold pushL; rw [hg]; simp only; rw [if_pos hw]
  · unfold pushU; rw [hg]; simp only; rw [if_pos hw]
  rintro v H37 ⟨rfl, S⟩ _ _
  simp only [oS, eqv_23, eqv_3, vT, pB, wB, btt, if_true, beq_self_eq_true, gT]
  refine (s_used S).use ?_
  rintro v H38 ⟨rfl, rfl⟩ _ _
  simp only [oS, eqv_23, eqv_3, vT, pB, wB, btt, if_true, beq_self_eq_true]
  refine loop9_0 (I := fun n t24 t25 t40 t41 H' => t24 = .bool true ∧ t25 = .ptr (.new kg) 0 ∧ t40 = .bool true ∧ ∃ (L : List Th) (i : Nat), t41 = .int .i64 (i : Int) ∧ L.length = 3 + i ∧ i + n = 13 ∧ St H' kg L (139267 + 65537 * i) 1048576) ?_ (n := 13)
    ⟨rfl, rfl, rfl, _, 0, rfl, rfl, rfl, by rw [show (139267 : Int) + 65537 * ((0 : Nat) : Int) = 139267 from rfl]; exact S⟩
  clear S
  rintro n _ _ _ _ H39 ⟨rfl, rfl, rfl, L, i, rfl, hL, hi, S⟩
  intros
  unfold B9_0
  rw [bin_lss, oS, condW_bool]
  refine ⟨fun hlt => ?_, fun hge => ?_⟩
  · have hlt : (i : Int) < 13 := of_decide_eq_true hlt
    obtain ⟨z0, hz0⟩ : ∃ z0 : List Int, z0 = List.replicate (65536 : Int).toNat 0 := ⟨_, rfl⟩
    refine (s_fill S (by omega) (r := (((L.length + 1 : Nat), 0), L ++ [.flat 18 z0], 139267 + 65537 * i + (1 + 65536))) ?_).use ?_
    · show (if (65536 : Int) < 0 ∨ (65536 : Int) > 65536 then ((0, 3), L, (139267 : Int) + 65537 * i) else makeS L (139267 + 65537 * i) 1048576 (.flat 18 (List.replicate (65536 : Int).toNat 0)) (1 + 65536)) = _
      rw [if_neg (by decide), ← hz0]
      unfold makeS
      rw [if_pos (by omega)]
    rintro v H40 ⟨rfl, S⟩ _ _
    rw [bin_add, oS, wrap_i64 (by omega) (by omega)]
    exact ⟨n - 1, by omega, rfl, rfl, rfl, rfl, L ++ [.flat 18 z0], i + 1, by simp, by rw [List.length_append, hL]; rfl, by omega, by rw [show (139267 : Int) + 65537 * ((i + 1 : Nat) : Int) = 139267 + 65537 * i + (1 + 65536) by omega]; exact S⟩
  have hge : ¬ (i : Int) < 13 := of_decide_eq_false hge
  obtain rfl : i = 13 := by omega
  rw [show (139267 : Int) + 65537 * ((13 : Nat) : Int) = 991248 from rfl] at S
  refine P9_40_ok ?_
  unfold P9_40
  refine (s_used S).use ?_
  rintro v H41 ⟨rfl, rfl⟩ _ _
  rw [bin_sub, oS, show IntKind.i64.wrap (1048576 - 991248) = 57328 from rfl]
  obtain ⟨z1, hz1⟩ : ∃ z1 : List Int, z1 = List.replicate (57328 : Int).toNat 0 := ⟨_, rfl⟩
  obtain ⟨z2, hz2⟩ : ∃ z2 : List Int, z2 = List.replicate (57327 : Int).toNat 0 := ⟨_, rfl⟩
  refine (s_fill S (by omega) (r := ((0, 4), L, 991248)) ?_).use ?_
  · show (if (57328 : Int) < 0 ∨ (57328 : Int) > 65536 then ((0, 3), L, (991248 : Int)) else makeS L 991248 1048576 (.flat 18 (List.replicate (57328 : Int).toNat 0)) (1 + 57328)) = _
    rw [if_neg (by decide), ← hz1]
    unfold makeS
    rw [if_neg (by decide)]
  rintro v H42 ⟨rfl, S⟩ _ _
  simp only [ex0, ex1, oS]
  rw [bin_sub, oS, show IntKind.i64.wrap (57328 - 1) = 57327 from rfl]
  refine (s_fill S (show L.length + 1 < 2 ^ 40 by omega) (r := (((L.length + 1 : Nat), 0), L ++ [.flat 18 z2], 1048576)) ?_).use ?_
  · show (if (57327 : Int) < 0 ∨ (57327 : Int) > 65536 then ((0, 3), L, (991248 : Int)) else makeS L 991248 1048576 (.flat 18 (List.replicate (57327 : Int).toNat 0)) (1 + 57327)) = _
    rw [if_neg (by decide), ← hz2]
    unfold makeS
    rw [if_pos (by decide)]
    rfl
  rintro v H43 ⟨rfl, S⟩ _ _
  simp only [ex0, ex1, oS]
  refine P9_43_ok ?_
  unfold P9_43
  refine (s_empty S (by simp only [List.length_append, List.length_cons, List.length_nil]; omega) (r := ((0, 4), L ++ [.flat 18 z2], 1048576)) ?_).use ?_
  · show makeS (L ++ [.flat 18 z2]) 1048576 1048576 (.grow 17 []) 1 = _
    unfold makeS
    rw [if_neg (by decide)]
  rintro v H44 ⟨rfl, S⟩ F44 _
  simp only [ex0, ex1, oS]
  clear S
  refine (s_new F44).use ?_
  rintro v H45 ⟨rfl, S⟩ _ _
  generalize H44.next = kz at S
  rw [show cap0 (-5) = 0 from rfl] at S
  refine P9_45_ok ?_
  unfold P9_45
  refine (s_const S (by decide)).use ?_
  rintro v H46 ⟨rfl, S⟩ _ _
  refine (s_text S (by decide) (r := ((0, 4), [.text [120]], 0)) rfl).use ?_
  rintro v H47 ⟨rfl, S⟩ _ _
  simp only [ex0, ex1, oS]
  refine P9_47_ok ?_
  unfold P9_47
  simp only [oS, eqv_23, eqv_3, vT, pB, wB, btt, if_true, beq_self_eq_true, gT, List.length_nil, Nat.zero_add, show (((1 : Nat) : Int) == 1) = true from rfl]
  refine works_ok.use ?_
  rintro v H48 rfl _ _
  simp only [oS, pB, if_true]

section
open Go.ChangeShapes Go.WideShapes Go.ChangeAt Go.RowKit
theorem walk {W : World} : Calls Try.prog 9 #[] W fun e w => e = .returned (.bool true) ∧ Kept W w :=
  calls_law known_ok.toW

theorem lifted (os : Os) (started : os.Started) (H : Type) (enc : TypeId × Value → H) :
    ReturnsInHanded {} Try.checked os 9 .any (Rows.heapKnownSpec.pre6 enc Try.prog Try.f9 Rows.heapKnownRow.domain false) (Rows.heapKnownSpec.post enc Try.prog Try.f9 false true false false) := by
  refine returnsInHanded_of_change (C := Try.checked) hp.own started (by kernel_rfl) Try.func9
    (ChangeSpec.witness6 (enc := enc) (C := Try.checked) false ⟨#[], #[], []⟩ 8 (by kernel_rfl) (by kernel_rfl) (by kernel_rfl) (by kernel_rfl)) ?_
  intro W base args ds gs before hval0 hW hcnd _
  have hW' := hW
  obtain ⟨p, q, hA0, hV, rfl, hfz, hnd⟩ := hW
  have hA : DataW.TrodAll enc Try.prog W 0 (fun _ => true) true Try.f9.params.toList args.toList ds p := hA0
  rw [Try.params9] at hA
  obtain ⟨rfl, rfl, rfl⟩ := trodAll_none hA
  refine (walk (W := W)).mono fun e W' ⟨he, hg⟩ => ?_
  subst he
  exact ⟨_, rfl, post_of_law (b := 4) hW' rfl laid (of_decide_eq_true (by kernel_rfl)) Try.underlying4 (by kernel_rfl) rfl rfl rfl hg⟩

theorem over : Rows.heapKnownRow.holds Try.pinned (OpenSpec.ofChange Rows.heapKnownSpec) :=
  OpenClaim.holds_of_wide 9 Try.f9 rfl rfl rfl rfl rfl rfl rfl ⟨rfl, rfl, rfl, rfl, rfl⟩ rfl rfl rfl rfl rfl (by kernel_rfl) Try.func9 (by kernel_rfl)
    (of_decide_eq_true (by kernel_rfl)) (by unfold Func.isWrapper; first | (rw [if_pos (by decide +kernel)]; kernel_rfl) | (rw [if_neg (by decide +kernel)]; exact ⟨rfl, rfl⟩))
    (fun os started H enc _ => lifted os started H enc)

theorem proved : Rows.HeapKnownSaid := over
end
end Go.Proofs.Ytjbpdmlpjgejcaa.heapKnown
