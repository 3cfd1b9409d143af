/-
  Texts Mp Mq Mr Ms Mt, as one.
-/
import Derived.Test.YtjbpdmlpjgejcaaDHv
import Derived.Test.YtjbpdmlpjgejcaaTyp
import Derived.Test.YtjbpdmlpjgejcaaAm36
import Derived.Test.YtjbpdmlpjgejcaaDHx
/-
  The document's heap: what it is in a heap of the abstract machine, and what its functions do to it.
-/
open Go.Proofs Go Go.Am
namespace Go.Proofs.Ytjbpdmlpjgejcaa.hp
open Go.Proofs.Ytjbpdmlpjgejcaa.vcs Go.Proofs.Ytjbpdmlpjgejcaa.vp
set_option linter.unusedVariables false
set_option linter.unusedSimpArgs false
set_option maxRecDepth 100000

/-- A thing's four cells. -/
def MAt (H : AHeap) (own : Own) (i : Nat) (cs : List AV) : Th → Prop
  | .text s => cs = [.int .i64 1, .int .i64 5, .str s, .nilSlc]
  | .flat t ws => ∃ kd sv, (kd = 2 ∨ kd = 3) ∧ cs = [.int .i64 kd, .int .i64 t, .str [], sv] ∧ SlcAt H own (.ws i) sv (wcs ws)
  | .grow t ws => ∃ sv, cs = [.int .i64 4, .int .i64 t, .str [], sv] ∧ SlcAt H own (.ws i) sv (wcs ws)

structure Mp (H : AHeap) (km : Nat) (mv : AV) (cells : List AV) (L : List Th) (used limit : Int) (own : Own) : Prop where
  head : H.get km = some (.cells [mv, .int .i64 used, .int .i64 limit] true [])
  hown : own km = .head
  list : (mv = .nilSlc ∧ L = [] ∧ cells = []) ∨ ∃ k cap ex all pre, mv = .slc (.new k) 0 L.length cap ex 4 ∧ H.get k = some (.cells all true pre) ∧ all.take (L.length * 4) = cells ∧ own k = .list ∧ L.length ≤ cap
  len : cells.length = L.length * 4
  small : L.length < 2 ^ 40
  things : ∀ i th, L[i]? = some th → MAt H own i ((cells.drop (i * 4)).take 4) th
  high : ∀ k, H.next ≤ k → own k = .none
  range : 0 ≤ used ∧ used ≤ limit ∧ limit < 2 ^ 40

variable {E : Env} {w0 : World}
section
variable {H H' : AHeap} {km : Nat} {mv : AV} {cells : List AV} {L : List Th} {used limit : Int} {own own' : Own}

theorem SlcAt.scalar {g : Tag} {v : AV} {cs : List AV} (h : SlcAt H own g v cs) : Am.scalar v = true := by
  rcases h with ⟨rfl, _⟩ | ⟨k, cap, ex, all, pre, rfl, _⟩ <;> rfl
theorem SlcAt.cellsEq {g : Tag} {v : AV} {cs : List AV} (h : SlcAt H own g v cs) : v.cells = [v] := by
  rcases h with ⟨rfl, _⟩ | ⟨k, cap, ex, all, pre, rfl, _⟩ <;> rfl
theorem MAt.ok {i : Nat} {cs : List AV} {th : Th} (h : MAt H own i cs th) : cs.length = 4 ∧ cs.all Am.scalar = true := by
  cases th with
  | text s => cases h; exact ⟨rfl, rfl⟩
  | flat t ws =>
    obtain ⟨kd, sv, _, rfl, h⟩ := h
    exact ⟨rfl, by simp only [List.all_cons, List.all_nil, h.scalar]; rfl⟩
  | grow t ws =>
    obtain ⟨sv, rfl, h⟩ := h
    exact ⟨rfl, by simp only [List.all_cons, List.all_nil, h.scalar]; rfl⟩
theorem MAt.keep {i : Nat} {cs : List AV} {th : Th} (h : MAt H own i cs th) (hk : ∀ k all pre, own k = .ws i → H.get k = some (.cells all true pre) → H'.get k = some (.cells all true pre) ∧ own' k = own k) : MAt H' own' i cs th := by
  cases th with
  | text s => exact h
  | flat t ws =>
    obtain ⟨kd, sv, e1, e2, e4⟩ := h
    exact ⟨kd, sv, e1, e2, e4.keep fun k all pre hg hh => by obtain ⟨a, b⟩ := hk k all pre hg hh; exact ⟨a, b.trans hg⟩⟩
  | grow t ws =>
    obtain ⟨sv, e2, e4⟩ := h
    exact ⟨sv, e2, e4.keep fun k all pre hg hh => by obtain ⟨a, b⟩ := hk k all pre hg hh; exact ⟨a, b.trans hg⟩⟩

theorem cut4 {all cells : List AV} {n i : Nat} (h : all.take n = cells) (hi : i * 4 + 4 ≤ n) : (cells.drop (i * 4)).take 4 = (all.drop (i * 4)).take 4 := by
  subst h
  rw [List.drop_take, List.take_take, Nat.min_eq_left (by omega)]

theorem Mp.frame (M : Mp H km mv cells L used limit own) (hk : ∀ k all pre, own k ≠ .none → H.get k = some (.cells all true pre) → H'.get k = some (.cells all true pre)) (hn : H.next ≤ H'.next) : Mp H' km mv cells L used limit own := by
  refine ⟨hk _ _ _ (by rw [M.hown]; exact fun e => by cases e) M.head, M.hown, ?_, M.len, M.small, ?_, fun k hk => M.high k (by omega), M.range⟩
  · rcases M.list with h | ⟨k, cap, ex, all, pre, h1, h2, h3, h4, h5⟩
    · exact .inl h
    · exact .inr ⟨k, cap, ex, all, pre, h1, hk _ _ _ (by rw [h4]; exact fun e => by cases e) h2, h3, h4, h5⟩
  · intro i th h
    exact (M.things i th h).keep fun k all pre e h => ⟨hk _ _ _ (by rw [e]; exact fun e => by cases e) h, rfl⟩

theorem Mp.at (M : Mp H km mv cells L used limit own) (ref : Int) : (thAt L ref = none ∧ (ref < 1 ∨ ref > L.length)) ∨
    ∃ th k cap ex all pre, thAt L ref = some th ∧ 1 ≤ ref ∧ ref ≤ L.length ∧ L[(ref - 1).toNat]? = some th ∧ mv = .slc (.new k) 0 L.length cap ex 4 ∧ H.get k = some (.cells all true pre) ∧ own k = .list ∧ all.take (L.length * 4) = cells ∧ L.length ≤ cap ∧
      MAt H own (ref - 1).toNat ((all.drop ((ref - 1).toNat * 4)).take 4) th ∧ (ref - 1).toNat * 4 + 4 ≤ all.length := by
  unfold thAt
  by_cases h1 : 1 ≤ ref
  · rw [if_pos h1]
    by_cases h2 : ref ≤ L.length
    · right
      have hl : (ref - 1).toNat < L.length := by omega
      rcases M.list with ⟨_, e, _⟩ | ⟨k, cap, ex, all, pre, g1, g2, g3, g4, g5⟩
      · rw [e] at hl; simp at hl
      · have hall : L.length * 4 ≤ all.length := by
          have := congrArg List.length g3
          rw [List.length_take, M.len] at this
          omega
        refine ⟨L[(ref - 1).toNat], k, cap, ex, all, pre, List.getElem?_eq_getElem hl, h1, h2, List.getElem?_eq_getElem hl, g1, g2, g4, g3, g5, ?_, by omega⟩
        rw [← cut4 g3 (by omega)]
        exact M.things _ _ (List.getElem?_eq_getElem hl)
    · exact .inl ⟨List.getElem?_eq_none (by omega), by omega⟩
  · rw [if_neg h1]; exact .inl ⟨rfl, by omega⟩

theorem build_86 : buildA Try.prog 86 [] = some (.agg [.int .i64 0, .int .i64 0, .str [], .nilSlc]) := by kernel_rfl
theorem put4 (F : Fine H) {k : Nat} {zs cs : List AV} {pre : List Nat} (hk : H.get k = some (.cells zs true pre)) (hz : zs.length = 4) (hc : cs.length = 4) (hs : cs.all Am.scalar = true) {K : AV → AHeap → Prop}
    (h : ∀ H', H'.get k = some (.cells cs true []) → But k H H' → H'.next = H.next → Fine H' → K undefA H') : storeW Try.prog H 86 (.ptr (.new k) 0) (.agg cs) K := by
  rw [st_86]
  have hcl : (AV.agg cs).cells = cs := rfl
  rw [hcl, if_pos (by rw [hc])]
  obtain ⟨H', e1, e2, e3, e4, F'⟩ := F.stores hk (n := 0) (vs := cs) (fun e => by rw [e] at hc; cases hc) (by omega) hs
  rw [e1, oS]
  rw [setMany_all (by omega)] at e2
  exact h H' e2 e3 e4 F'

theorem at_m (F : Fine H) (M : Mp H km mv cells L used limit own) {ref : Int} (h0 : 0 ≤ ref) (h1 : ref < 2 ^ 64) : FnX Try.prog E w0 52 [.ptr (.new km) 0, .int .u64 ref] H fun v H' => Stays H H' ∧
    ∃ cs, v = .agg cs ∧ ((thAt L ref = none ∧ cs = [.int .i64 0, .int .i64 0, .str [], .nilSlc]) ∨ ∃ th, thAt L ref = some th ∧ L[(ref - 1).toNat]? = some th ∧ MAt H own (ref - 1).toNat cs th) := by
  refine V52_ok ?_
  unfold V52
  rw [zero_86, oS, wW]
  have hz : (AV.agg [.int .i64 0, .int .i64 0, .str [], .nilSlc]).cells = [.int .i64 0, .int .i64 0, .str [], .nilSlc] := rfl
  rw [hz]
  obtain ⟨n1, n2, n3, F0⟩ := F.newCells [.int .i64 0, .int .i64 0, .str [], .nilSlc]
  generalize hH0 : newCells H [.int .i64 0, .int .i64 0, .str [], .nilSlc] = H0 at n1 n2 n3 F0 ⊢
  have fin : ∀ (cs : List AV), cs.length = 4 → cs.all Am.scalar = true → ((thAt L ref = none ∧ cs = [.int .i64 0, .int .i64 0, .str [], .nilSlc]) ∨ ∃ th, thAt L ref = some th ∧ L[(ref - 1).toNat]? = some th ∧ MAt H own (ref - 1).toNat cs th) →
      storeW Try.prog H0 86 (.ptr (.new H.next) 0) (.agg cs) fun v14 H15 => cellW Try.prog E H15 86 (.ptr (.new H.next) 0) fun v16 => (fun v H' => Stays H H' ∧ ∃ cs, v = .agg cs ∧ ((thAt L ref = none ∧ cs = [.int .i64 0, .int .i64 0, .str [], .nilSlc]) ∨ ∃ th, thAt L ref = some th ∧ L[(ref - 1).toNat]? = some th ∧ MAt H own (ref - 1).toNat cs th)) v16 H15 := by
    intro cs hl hsc hq
    refine put4 F0 n1 rfl hl hsc ?_
    intro H' e1 e2 e3 F'
    rw [cellW_ptr, lv_86, loadRange_new E e1, if_pos (by omega), Option.bind_some, oS]
    have : (cs.drop 0).take 4 = cs := by rw [List.drop_zero, List.take_of_length_le (by omega)]
    rw [this]
    exact ⟨fun k all pre hk => e2 _ _ _ (by have := F.lt hk; omega) (n2 _ _ _ hk), cs, rfl, hq⟩
  have hl : cells.length = L.length * 4 := M.len
  have hsm := M.small
  have l0 : loadCell E H0 (.new km) 0 = some mv := by rw [loadCell_new E (n2 _ _ _ M.head)]; rfl
  have hlen : lenV Try.prog H0 50 mv = some (.int .i64 L.length) := by
    rcases M.list with ⟨rfl, rfl, _⟩ | ⟨k, cap, ex, all, pre, rfl, _⟩
    · rw [len0_50]; rfl
    · rw [len_50]
  rw [bin_lss, oS, wB]
  rcases M.at ref with ⟨e1, e2⟩ | ⟨th, k, cap, ex, all, pre, e1, r1, r2, e2, rfl, g2, g3, g4, g5, g6, g7⟩
  · by_cases hr : ref < 1
    · simp only [dT hr, btf, vF, oS, pB, if_true, cT, build_86]
      exact fin _ rfl rfl (.inl ⟨e1, rfl⟩)
    · have hr2 : ref > L.length := by omega
      simp only [dF hr, bff, vT, oS, nP, fa_52_0, ld_50, Nat.zero_add, l0, hlen, cv_3_23, pB, Bool.false_eq_true, if_false]
      rw [wrap_u64 (by omega) (by omega)]
      simp only [bin_gtr, oS, dT hr2, cT, build_86]
      exact fin _ rfl rfl (.inl ⟨e1, rfl⟩)
  · have hr : ¬ ref < 1 := by omega
    have hr2 : ¬ ref > L.length := by omega
    simp only [dF hr, bff, vT, oS, nP, fa_52_0, ld_50, Nat.zero_add, l0, hlen, cv_3_23, pB, Bool.false_eq_true, if_false]
    rw [wrap_u64 (by omega) (by omega)]
    simp only [bin_gtr, oS, dF hr2, cF, bin_sub]
    rw [wrap_u64 (by omega) (by omega), ix_50, if_pos ⟨by omega, by omega⟩, oS, ld_86, loadRange_new E (n2 _ _ _ g2), Nat.zero_add, if_pos g7, Option.bind_some, oS]
    exact fin _ g6.ok.1 g6.ok.2 (.inr ⟨th, e1, e2, g6⟩)

theorem type_m (F : Fine H) (M : Mp H km mv cells L used limit own) {ref : Int} (h0 : 0 ≤ ref) (h1 : ref < 2 ^ 64) : FnX Try.prog E w0 48 [.ptr (.new km) 0, .int .u64 ref] H fun v H' => Stays H H' ∧ v = .int .i64 (typeR L ref) := by
  refine V48_ok ?_
  unfold V48
  refine (at_m F M h0 h1).use ?_
  rintro v H' ⟨s, cs, rfl, ⟨e1, rfl⟩ | ⟨th, e1, e0, hm⟩⟩ _ _
  · unfold typeR
    rw [e1, fd_86_1]
    exact ⟨s, rfl⟩
  · unfold typeR
    rw [e1, fd_86_1]
    cases th with
    | text t => cases hm; exact ⟨s, rfl⟩
    | flat t ws => obtain ⟨kd, sv, _, rfl, _⟩ := hm; exact ⟨s, rfl⟩
    | grow t ws => obtain ⟨sv, rfl, _⟩ := hm; exact ⟨s, rfl⟩

theorem zcells : (AV.agg [.int .i64 0, .int .i64 0, .str [], .nilSlc]).cells = [.int .i64 0, .int .i64 0, .str [], .nilSlc] := rfl
/-- A copy of a thing's cells. -/
theorem copy4 (F : Fine H) {cs : List AV} (hc : cs.length = 4) (hs : cs.all Am.scalar = true) {K : AV → AHeap → Prop}
    (h : ∀ H', H'.get H.next = some (.cells cs true []) → Stays H H' → H'.next = H.next + 1 → Fine H' → K undefA H') :
    storeW Try.prog (newCells H [.int .i64 0, .int .i64 0, .str [], .nilSlc]) 86 (.ptr (.new H.next) 0) (.agg cs) K := by
  obtain ⟨n1, n2, n3, F0⟩ := F.newCells [.int .i64 0, .int .i64 0, .str [], .nilSlc]
  refine put4 F0 n1 rfl hc hs fun H' e1 e2 e3 F' => ?_
  exact h H' e1 (fun k all pre hk => e2 _ _ _ (by have := F.lt hk; omega) (n2 _ _ _ hk)) (by omega) F'

theorem bytes_m (F : Fine H) (M : Mp H km mv cells L used limit own) {ref : Int} (h0 : 0 ≤ ref) (h1 : ref < 2 ^ 64) : FnX Try.prog E w0 46 [.ptr (.new km) 0, .int .u64 ref] H fun v H' => Stays H H' ∧ v = .tup [.str (textR L ref).1, .bool (textR L ref).2] := by
  refine V46_ok ?_
  unfold V46
  refine (at_m F M h0 h1).use ?_
  rintro v H1 ⟨s, cs, rfl, hcs⟩ F1 _
  have hok : cs.length = 4 ∧ cs.all Am.scalar = true := by
    rcases hcs with ⟨_, rfl⟩ | ⟨th, _, _, hm⟩
    · exact ⟨rfl, rfl⟩
    · exact hm.ok
  rw [zero_86, oS, wW, zcells]
  refine copy4 F1 hok.1 hok.2 fun H2 g1 g2 g3 F2 => ?_
  have hs : Stays H H2 := fun k all pre hk => g2 _ _ _ (s _ _ _ hk)
  simp only [fa_86_2, fa_86_0, oS, ld_9, ld_3, Nat.zero_add, loadCell_new E g1]
  unfold textR
  rcases hcs with ⟨e1, rfl⟩ | ⟨th, e1, _, hm⟩
  · rw [e1]
    simp only [List.getElem?_cons_zero, List.getElem?_cons_succ, oS, eqv_3]
    exact ⟨trivial, trivial, hs, rfl⟩
  · rw [e1]
    cases th with
    | text t => cases hm; exact ⟨trivial, trivial, hs, rfl⟩
    | flat t ws => obtain ⟨kd, sv, hk | hk, rfl, _⟩ := hm <;> subst hk <;> exact ⟨trivial, trivial, hs, rfl⟩
    | grow t ws => obtain ⟨sv, rfl, _⟩ := hm; exact ⟨trivial, trivial, hs, rfl⟩

theorem len_m (F : Fine H) (M : Mp H km mv cells L used limit own) {ref : Int} (h0 : 0 ≤ ref) (h1 : ref < 2 ^ 64) : FnX Try.prog E w0 47 [.ptr (.new km) 0, .int .u64 ref] H fun v H' => Stays H H' ∧ v = .tup [.int .i64 (lenR L ref).1, .bool (lenR L ref).2] := by
  refine V47_ok ?_
  unfold V47
  refine (at_m F M h0 h1).use ?_
  rintro v H1 ⟨s, cs, rfl, hcs⟩ F1 _
  have hok : cs.length = 4 ∧ cs.all Am.scalar = true := by
    rcases hcs with ⟨_, rfl⟩ | ⟨th, _, _, hm⟩
    · exact ⟨rfl, rfl⟩
    · exact hm.ok
  rw [zero_86, oS, wW, zcells]
  refine copy4 F1 hok.1 hok.2 fun H2 g1 g2 g3 F2 => ?_
  have hs : Stays H H2 := fun k all pre hk => g2 _ _ _ (s _ _ _ hk)
  simp only [fa_86_2, fa_86_0, fa_86_3, oS, ld_9, ld_3, ld_22, Nat.zero_add, loadCell_new E g1]
  unfold lenR
  rcases hcs with ⟨e1, rfl⟩ | ⟨th, e1, _, hm⟩
  · rw [e1]
    simp only [List.getElem?_cons_zero, List.getElem?_cons_succ, oS, eqv_3, nev_3, show ((0 : Int) == 1) = false from rfl, cF, len0_22]
    exact ⟨trivial, trivial, trivial, hs, rfl⟩
  · rw [e1]
    cases th with
    | text t =>
      cases hm
      simp only [List.getElem?_cons_zero, List.getElem?_cons_succ, oS, eqv_3, nev_3, show ((1 : Int) == 1) = true from rfl, cT, len_9]
      exact ⟨hs, by trivial⟩
    | flat t ws =>
      obtain ⟨kd, sv, hk, rfl, hsv⟩ := hm
      have hl := hsv.len22
      rw [wcs_length] at hl
      have hl2 : lenV Try.prog H2 22 sv = some (.int .i64 ws.length) := by
        rcases hsv with ⟨rfl, hw⟩ | ⟨k, cap, ex, all, pre, rfl, _⟩
        · rw [len0_22] at hl ⊢; exact hl
        · rw [len_22] at hl ⊢; exact hl
      have k1 : (kd == 1) = false := by rcases hk with rfl | rfl <;> rfl
      have k0 : (kd != 0) = true := by rcases hk with rfl | rfl <;> rfl
      simp only [List.getElem?_cons_zero, List.getElem?_cons_succ, oS, eqv_3, nev_3, k1, k0, cF, hl2]
      exact ⟨trivial, trivial, trivial, hs, by trivial⟩
    | grow t ws =>
      obtain ⟨sv, rfl, hsv⟩ := hm
      have hl := hsv.len22
      rw [wcs_length] at hl
      have hl2 : lenV Try.prog H2 22 sv = some (.int .i64 ws.length) := by
        rcases hsv with ⟨rfl, hw⟩ | ⟨k, cap, ex, all, pre, rfl, _⟩
        · rw [len0_22] at hl ⊢; exact hl
        · rw [len_22] at hl ⊢; exact hl
      simp only [List.getElem?_cons_zero, List.getElem?_cons_succ, oS, eqv_3, nev_3, show ((4 : Int) == 1) = false from rfl, show ((4 : Int) != 0) = true from rfl, cF, hl2]
      exact ⟨trivial, trivial, trivial, hs, by trivial⟩
end
end Go.Proofs.Ytjbpdmlpjgejcaa.hp

/-
  What the document's functions that turn a heap do.
-/
open Go.Proofs Go Go.Am
namespace Go.Proofs.Ytjbpdmlpjgejcaa.hp
open Go.Proofs.Ytjbpdmlpjgejcaa.vcs Go.Proofs.Ytjbpdmlpjgejcaa.vp
set_option linter.unusedVariables false
set_option linter.unusedSimpArgs false
set_option maxRecDepth 100000

variable {E : Env} {w0 : World}
section
variable {H H' : AHeap} {km : Nat} {mv : AV} {cells : List AV} {L : List Th} {used limit : Int} {own own' : Own}

def hasR (L : List Th) (ref i : Int) : Bool := match (thAt L ref).bind Th.words with
  | some ws => decide (0 ≤ i ∧ i < ws.length)
  | none => false

/-- A thing's cells, that have words. -/
theorem MAt.wd {i : Nat} {cs : List AV} {th : Th} {ws : List Int} (h : MAt H own i cs th) (hw : th.words = some ws) : ∃ kd t sv, (kd == 1) = false ∧ (kd != 1) = true ∧ cs = [.int .i64 kd, .int .i64 t, .str [], sv] ∧ SlcAt H own (.ws i) sv (wcs ws) ∧
    ∀ {H' : AHeap} {own' : Own} {sv' : AV} {ws' : List Int}, SlcAt H' own' (.ws i) sv' (wcs ws') → MAt H' own' i [.int .i64 kd, .int .i64 t, .str [], sv'] (th.put ws') := by
  cases th with
  | text s => cases hw
  | flat t w =>
    cases hw
    obtain ⟨kd, sv, hk, rfl, hs⟩ := h
    refine ⟨kd, t, sv, ?_, ?_, rfl, hs, fun h' => ⟨kd, _, hk, rfl, h'⟩⟩
    · rcases hk with rfl | rfl <;> rfl
    · rcases hk with rfl | rfl <;> rfl
  | grow t w =>
    cases hw
    obtain ⟨sv, rfl, hs⟩ := h
    exact ⟨4, t, sv, rfl, rfl, rfl, hs, fun h' => ⟨_, rfl, h'⟩⟩
theorem SlcAt.len22' {g : Tag} {v : AV} {cs : List AV} (h : SlcAt H own g v cs) (H2 : AHeap) : lenV Try.prog H2 22 v = some (.int .i64 cs.length) := by
  rcases h with ⟨rfl, rfl⟩ | ⟨k, cap, ex, all, pre, rfl, _⟩
  · rw [len0_22]; rfl
  · rw [len_22]
theorem cell3 {all : List AV} {n : Nat} {a b c d : AV} (h : (all.drop n).take 4 = [a, b, c, d]) : all[n + 3]? = some d := by
  have := congrArg (·[3]?) h
  simp only [List.getElem?_take, List.getElem?_drop] at this
  rw [if_pos (by omega)] at this
  exact this

theorem has_m (F : Fine H) (M : Mp H km mv cells L used limit own) {ref i : Int} (h0 : 0 ≤ ref) (h1 : ref < 2 ^ 64) : FnX Try.prog E w0 51 [.ptr (.new km) 0, .int .u64 ref, .int .i64 i] H fun v H' => Stays H H' ∧ v = .bool (hasR L ref i) := by
  refine V51_ok ?_
  unfold V51
  refine (at_m F M h0 h1).use ?_
  rintro v H1 ⟨s, cs, rfl, hcs⟩ F1 _
  have hok : cs.length = 4 ∧ cs.all Am.scalar = true := by
    rcases hcs with ⟨_, rfl⟩ | ⟨th, _, _, hm⟩
    · exact ⟨rfl, rfl⟩
    · exact hm.ok
  rw [zero_86, oS, wW, zcells]
  refine copy4 F1 hok.1 hok.2 fun H2 g1 g2 g3 F2 => ?_
  have hs : Stays H H2 := fun k all pre hk => g2 _ _ _ (s _ _ _ hk)
  simp only [fa_86_2, fa_86_0, fa_86_3, oS, ld_9, ld_3, ld_22, Nat.zero_add, loadCell_new E g1]
  unfold hasR
  have fin : ∀ (kd : Int) (b c sv : AV) (n : Nat), cs = [.int .i64 kd, b, c, sv] → (kd != 1) = true → (∀ H2, lenV Try.prog H2 22 sv = some (.int .i64 n)) → 
      (optW (cs[0]?) fun v8 =>
      optW (binV Try.prog .neq 3 (.tmp 12) (.const (.int .i64 1)) v8 (.int .i64 1)) fun v9 =>
      optW (valG (wantsA v9 true) (some (.int .i64 i))) fun v10 =>
      optW (valG (wantsA v9 true) (binA Try.prog .geq 2 v10 (.int .i64 0))) fun v11 =>
      optW (pickV v9 v11 (.bool false)) fun v12 =>
      optW (valG (wantsA v12 true) (some (.int .i64 i))) fun v13 =>
      optW (valG (wantsA v12 true) (some (.ptr (.new H1.next) 3))) fun v14 =>
      optW (valG (wantsA v12 true) (loadV Try.prog E H2 22 v14)) fun v15 =>
      optW (valG (wantsA v12 true) (lenV Try.prog H2 22 v15)) fun v16 =>
      optW (valG (wantsA v12 true) (binA Try.prog .lss 2 v13 v16)) fun v17 =>
      optW (pickV v12 v17 (.bool false)) fun v18 => (Stays H H2 ∧ v18 = .bool (decide (0 ≤ i ∧ i < n)))) := by
    intro kd b c sv n e hk hl
    subst e
    simp only [List.getElem?_cons_zero, oS, nev_3, hk, wB, btt, vT, bin_geq, pB, if_true]
    by_cases hi : i ≥ 0
    · simp only [dT hi, btt, vT, oS, ld_22, loadCell_new E g1, List.getElem?_cons_zero, List.getElem?_cons_succ, hl, bin_lss, pB, if_true]
      refine ⟨hs, ?_⟩
      have : (0 ≤ i ∧ i < n) ↔ i < n := ⟨fun h => h.2, fun h => ⟨hi, h⟩⟩
      rw [decide_eq_decide.2 this]
    · simp only [dF hi, bft, vF, oS, pB, Bool.false_eq_true, if_false]
      refine ⟨hs, ?_⟩
      rw [decide_eq_false (fun h => hi h.1)]
  rcases hcs with ⟨e1, rfl⟩ | ⟨th, e1, _, hm⟩
  · rw [e1]
    have := fin 0 _ _ _ 0 rfl rfl (fun H2 => len0_22 H2)
    have e : decide (0 ≤ i ∧ i < ((0 : Nat) : Int)) = false := decide_eq_false (by omega)
    rw [e] at this
    exact this
  · rw [e1]
    cases hw : th.words with
    | none =>
      cases th with
      | text t =>
        cases hm
        simp only [List.getElem?_cons_zero, oS, nev_3, show ((1 : Int) != 1) = false from rfl, wB, bft, vF, pB, Bool.false_eq_true, if_false, Option.bind_some, Th.words]
        exact ⟨hs, by trivial⟩
      | _ => cases hw
    | some ws =>
      obtain ⟨kd, t, sv, k1, k2, e, hsl, _⟩ := hm.wd hw
      simp only [Option.bind_some, hw]
      have hl := hsl.len22'
      rw [wcs_length] at hl
      exact fin kd _ _ sv ws.length e k2 hl

theorem hasR_getW (L : List Th) (ref i : Int) : (hasR L ref i = false ∧ getW L ref i = (0, 2)) ∨ (hasR L ref i = true ∧ ∃ th ws, thAt L ref = some th ∧ th.words = some ws ∧ 0 ≤ i ∧ i < ws.length ∧ getW L ref i = (ws.getD i.toNat 0, 0)) := by
  unfold hasR getW
  cases hth : thAt L ref with
  | none => exact .inl ⟨rfl, rfl⟩
  | some th =>
    simp only [Option.bind_some]
    cases hw : th.words with
    | none => exact .inl ⟨rfl, rfl⟩
    | some ws =>
      simp only
      by_cases hi : 0 ≤ i ∧ i < ws.length
      · exact .inr ⟨decide_eq_true hi, th, ws, rfl, hw, hi.1, hi.2, if_pos hi⟩
      · exact .inl ⟨decide_eq_false hi, if_neg hi⟩

theorem get_m (F : Fine H) (M : Mp H km mv cells L used limit own) {ref i : Int} (h0 : 0 ≤ ref) (h1 : ref < 2 ^ 64) : FnX Try.prog E w0 42 [.ptr (.new km) 0, .int .u64 ref, .int .i64 i] H fun v H' => Stays H H' ∧
    v = .tup [.int .u64 (getW L ref i).1, .int .i64 (getW L ref i).2] := by
  refine V42_ok ?_
  unfold V42
  refine (has_m F M h0 h1).use ?_
  rintro v H1 ⟨s, rfl⟩ F1 hn
  rw [un_not, oS]
  rcases hasR_getW L ref i with ⟨e1, e2⟩ | ⟨e1, th, ws, e2, e3, i0, i1, e4⟩
  · rw [e1, e2]
    exact ⟨s, rfl⟩
  · rw [e1, e4]
    have M1 := M.frame (fun k all pre _ h => s k all pre h) hn
    rcases M1.at ref with ⟨f1, _⟩ | ⟨th', k, cap, ex, all, pre, f1, r1, r2, f2, rfl, g2, g3, g4, g5, g6, g7⟩
    · rw [f1] at e2; cases e2
    · rw [f1] at e2; cases e2
      have hsm := M.small
      obtain ⟨kd, t, sv, _, _, hcs, hsl, _⟩ := g6.wd e3
      have l0 : loadCell E H1 (.new km) 0 = some (.slc (.new k) 0 L.length cap ex 4) := by rw [loadCell_new E M1.head]; rfl
      simp only [Bool.not_true, cF, nP, oS, fa_52_0, ld_50, Nat.zero_add, l0, bin_sub]
      rw [wrap_u64 (by omega) (by omega), ix_50, if_pos ⟨by omega, by omega⟩, oS, fa_86_3, oS, ld_22, loadCell_new E g2, Nat.zero_add, cell3 hcs, oS]
      obtain ⟨p, p1, _, p2⟩ := hsl.at22 (n := i.toNat) (by rw [wcs_length]; omega) .i64
      rw [show ((i.toNat : Nat) : Int) = i by omega] at p1
      rw [p1, oS, p2, wcs_get (by omega), oS]
      refine ⟨s, ?_⟩
      rw [List.getD_eq_getElem?_getD, List.getElem?_eq_getElem (by omega)]
      rfl

/-- What is so behind a call, of the document's heap. -/
def NowM (own : Own) (H H' : AHeap) (km : Nat) (L : List Th) (used limit : Int) : Prop :=
  ∃ mv cells own', Mp H' km mv cells L used limit own' ∧ OwnExt own own' H ∧ Only own H H'
theorem NowM.stays (M : Mp H km mv cells L used limit own) (s : Stays H H') (hn : H.next ≤ H'.next) : NowM own H H' km L used limit :=
  ⟨mv, cells, own, M.frame (fun k all pre _ h => s k all pre h) hn, fun _ _ => rfl, fun k cs pre _ h => s k cs pre h⟩
theorem NowM.from {H'' : AHeap} (h : NowM own' H' H'' km L used limit) (F : Fine H) (hs : Stays H H') (hn : H.next ≤ H'.next) (he : OwnExt own own' H) : NowM own H H'' km L used limit := by
  obtain ⟨lv, tvs, own2, h1, h2, h3⟩ := h
  refine ⟨lv, tvs, own2, h1, fun k hk => (h2 k (by omega)).trans (he k hk), fun k cs pre hk h => ?_⟩
  exact h3 k cs pre ((he k (F.lt h)).trans hk) (hs _ _ _ h)

theorem Mp.turn (M : Mp H km mv cells L used limit own) (F : Fine H) {i : Nat} {th' : Th} {mv' : AV} {cells' : List AV} {used' : Int}
    (hh : H'.get km = some (.cells [mv', .int .i64 used', .int .i64 limit] true []))
    (hl : ∃ k cap ex all pre, mv' = .slc (.new k) 0 L.length cap ex 4 ∧ H'.get k = some (.cells all true pre) ∧ all.take (L.length * 4) = cells' ∧ own' k = .list ∧ L.length ≤ cap)
    (hlen : cells'.length = L.length * 4) (hc : ∀ j, j ≠ i → (cells'.drop (j * 4)).take 4 = (cells.drop (j * 4)).take 4)
    (hr : 0 ≤ used' ∧ used' ≤ limit) (he : OwnExt own own' H) (hn : ∀ k, H'.next ≤ k → own' k = .none)
    (hst : ∀ k all pre j, j ≠ i → own k = .ws j → H.get k = some (.cells all true pre) → H'.get k = some (.cells all true pre))
    (hT : MAt H' own' i ((cells'.drop (i * 4)).take 4) th') : Mp H' km mv' cells' (L.set i th') used' limit own' := by
  have hL : (L.set i th').length = L.length := List.length_set
  refine ⟨hh, (he _ (F.lt M.head)).trans M.hown, .inr (by rw [hL]; exact hl), by rw [hL]; exact hlen, by rw [hL]; exact M.small, ?_, hn, ⟨hr.1, hr.2, M.range.2.2⟩⟩
  intro j x hx
  rw [List.getElem?_set] at hx
  split at hx
  · rename_i hij
    subst hij
    split at hx
    · cases hx; exact hT
    · cases hx
  · rename_i hij
    rw [hc j (Ne.symm hij)]
    exact (M.things j x hx).keep fun k all pre e h => ⟨hst k all pre j (Ne.symm hij) e h, he _ (F.lt h)⟩

theorem cut_set {cells : List AV} {i j : Nat} {x : AV} (h : j ≠ i) : ((cells.set (i * 4 + 3) x).drop (j * 4)).take 4 = (cells.drop (j * 4)).take 4 := by
  refine List.ext_getElem? fun n => ?_
  rw [List.getElem?_take, List.getElem?_take]
  split
  · rw [List.getElem?_drop, List.getElem?_drop, List.getElem?_set, if_neg (by omega)]
  · rfl
theorem cut_set' {cells : List AV} {i : Nat} {a b c d x : AV} (h : (cells.drop (i * 4)).take 4 = [a, b, c, d]) : ((cells.set (i * 4 + 3) x).drop (i * 4)).take 4 = [a, b, c, x] := by
  have hlen : i * 4 + 3 < cells.length := by
    have := congrArg List.length h
    rw [List.length_take, List.length_drop] at this
    simp at this
    omega
  refine List.ext_getElem? fun n => ?_
  have hn := congrArg (·[n]?) h
  simp only [List.getElem?_take, List.getElem?_drop] at hn
  rw [List.getElem?_take, List.getElem?_drop, List.getElem?_set]
  by_cases hn4 : n < 4
  · rw [if_pos hn4] at hn ⊢
    by_cases h3 : n = 3
    · subst h3
      rw [if_pos rfl, if_pos hlen]; rfl
    · rw [if_neg (by omega), hn]
      have : n = 0 ∨ n = 1 ∨ n = 2 := by omega
      rcases this with rfl | rfl | rfl <;> rfl
  · rw [if_neg hn4]
    exact (List.getElem?_eq_none (by simp; omega)).symm

theorem set_m (F : Fine H) (M : Mp H km mv cells L used limit own) {ref i w : Int} (h0 : 0 ≤ ref) (h1 : ref < 2 ^ 64) : FnX Try.prog E w0 43 [.ptr (.new km) 0, .int .u64 ref, .int .i64 i, .int .u64 w] H fun v H' =>
    v = .int .i64 (getW L ref i).2 ∧ NowM own H H' km (setL L ref i w) used limit := by
  refine V43_ok ?_
  unfold V43
  refine (has_m F M h0 h1).use ?_
  rintro v H1 ⟨s, rfl⟩ F1 hn
  rw [un_not, oS]
  have M1 := M.frame (fun k all pre _ h => s k all pre h) hn
  have hset : ∀ th ws, thAt L ref = some th → th.words = some ws → setL L ref i w = if 0 ≤ i ∧ i < ws.length then L.set (ref - 1).toNat (th.put (ws.set i.toNat w)) else L := by
    intro th ws a b
    unfold setL
    rw [a]
    simp only [b]
  rcases hasR_getW L ref i with ⟨e1, e2⟩ | ⟨e1, th, ws, e2, e3, i0, i1, e4⟩
  · have hsame : setL L ref i w = L := by
      unfold hasR at e1
      unfold setL
      cases hth : thAt L ref with
      | none => rfl
      | some th =>
        rw [hth] at e1
        simp only [Option.bind_some] at e1 ⊢
        cases hw : th.words with
        | none => rfl
        | some ws =>
          rw [hw] at e1
          simp only at e1 ⊢
          rw [if_neg (of_decide_eq_false e1)]
    rw [e1, e2, hsame]
    exact ⟨rfl, NowM.stays M s hn⟩
  · rw [e1, e4, hset th ws e2 e3, if_pos ⟨i0, i1⟩]
    rcases M1.at ref with ⟨f1, _⟩ | ⟨th', k, cap, ex, all, pre, f1, r1, r2, f2, rfl, g2, g3, g4, g5, g6, g7⟩
    · rw [f1] at e2; cases e2
    · rw [f1] at e2; cases e2
      have hsm := M.small
      obtain ⟨kd, t, sv, _, _, hcs, hsl, hput⟩ := g6.wd e3
      have l0 : loadCell E H1 (.new km) 0 = some (.slc (.new k) 0 L.length cap ex 4) := by rw [loadCell_new E M1.head]; rfl
      simp only [Bool.not_true, cF, nP, oS, fa_52_0, ld_50, Nat.zero_add, l0, bin_sub]
      rw [wrap_u64 (by omega) (by omega), ix_50, if_pos ⟨by omega, by omega⟩, oS, fa_86_3, oS, ld_22, loadCell_new E g2, Nat.zero_add, cell3 hcs, oS]
      obtain ⟨p, p1, ⟨b, rfl, hob, all2, pre2, hb, htake, cap2, ex2, hsv, hcap2⟩, _⟩ := hsl.at22 (n := i.toNat) (by rw [wcs_length]; omega) .i64
      rw [show ((i.toNat : Nat) : Int) = i by omega] at p1
      rw [p1, oS]
      rw [wcs_length] at htake hsv hcap2
      have hall : i.toNat < all2.length := by
        have := congrArg List.length htake
        rw [wcs_length, List.length_take] at this
        omega
      obtain ⟨H2, q1, q2, q3, q4, F2⟩ := F1.store hb (x := .int .u64 w) hall rfl
      refine store1W sz_23 rfl q1 ⟨by trivial, ?_⟩
      have hne : ∀ k', own k' ≠ .ws (ref - 1).toNat → k' ≠ b := fun k' h e => h (e ▸ hob)
      refine ⟨.slc (.new k) 0 L.length cap ex 4, cells, own, ?_, fun _ _ => rfl, fun k' cs' pre' hk h => q3 _ _ _ (hne _ (by rw [hk]; exact fun e => by cases e)) (s _ _ _ h)⟩
      refine M1.turn F1 (q3 _ _ _ (hne _ (by rw [M.hown]; exact fun e => by cases e)) M1.head) ⟨k, cap, ex, all, pre, rfl, q3 _ _ _ (hne _ (by rw [g3]; exact fun e => by cases e)) g2, g4, g3, g5⟩ M.len (fun _ _ => rfl) ⟨M.range.1, M.range.2.1⟩ (fun _ _ => rfl) (fun k' hk => M1.high k' (by omega)) ?_ ?_
      · intro k' all' pre' j hj ho h
        exact q3 _ _ _ (hne _ (by rw [ho]; intro e; cases e; exact hj rfl)) h
      · rw [cut4 g4 (by omega), hcs]
        refine hput (.inr ⟨b, cap2, ex2, _, [], ?_, q2, ?_, hob, by rw [wcs_length, List.length_set]; exact hcap2⟩)
        · rw [hsv, wcs_length, List.length_set]
        · rw [wcs_length, List.length_set, wcs_set, ← htake, List.take_set]
end
end Go.Proofs.Ytjbpdmlpjgejcaa.hp

/-
  Push and Drop of the document's heap.
-/
open Go.Proofs Go Go.Am
namespace Go.Proofs.Ytjbpdmlpjgejcaa.hp
open Go.Proofs.Ytjbpdmlpjgejcaa.vcs Go.Proofs.Ytjbpdmlpjgejcaa.vp
set_option linter.unusedVariables false
set_option linter.unusedSimpArgs false
set_option maxRecDepth 100000

variable {E : Env} {w0 : World}
section
variable {H H' : AHeap} {km : Nat} {mv : AV} {cells : List AV} {L : List Th} {used limit : Int} {own own' : Own}

/-- No thing that grows is too great. -/
def Caps (L : List Th) : Prop := ∀ t ws, Th.grow t ws ∈ L → ws.length ≤ 65536

/-- A thing's cells: is it one that grows? -/
theorem grows {ref : Int} {cs : List AV} (h : (thAt L ref = none ∧ cs = [.int .i64 0, .int .i64 0, .str [], .nilSlc]) ∨ ∃ th, thAt L ref = some th ∧ L[(ref - 1).toNat]? = some th ∧ MAt H own (ref - 1).toNat cs th) :
    (growAt L ref = none ∧ ∃ kd b c sv n, cs = [.int .i64 kd, b, c, sv] ∧ (kd != 4) = true ∧ ∀ H2, lenV Try.prog H2 22 sv = some (.int .i64 n)) ∨
    ∃ t ws sv, growAt L ref = some (t, ws) ∧ L[(ref - 1).toNat]? = some (.grow t ws) ∧ thAt L ref = some (.grow t ws) ∧ cs = [.int .i64 4, .int .i64 t, .str [], sv] ∧ SlcAt H own (.ws (ref - 1).toNat) sv (wcs ws) := by
  unfold growAt
  rcases h with ⟨e1, rfl⟩ | ⟨th, e1, e0, hm⟩
  · rw [e1]
    exact .inl ⟨rfl, 0, _, _, _, 0, rfl, rfl, fun H2 => len0_22 H2⟩
  · rw [e1]
    cases th with
    | text s => cases hm; exact .inl ⟨rfl, 1, _, _, _, 0, rfl, rfl, fun H2 => len0_22 H2⟩
    | flat t ws =>
      obtain ⟨kd, sv, hk, rfl, hs⟩ := hm
      refine .inl ⟨rfl, kd, _, _, _, _, rfl, ?_, fun H2 => hs.len22' H2⟩
      rcases hk with rfl | rfl <;> rfl
    | grow t ws =>
      obtain ⟨sv, rfl, hs⟩ := hm
      exact .inr ⟨t, ws, sv, rfl, e0, rfl, rfl, hs⟩

theorem push_m (F : Fine H) (M : Mp H km mv cells L used limit own) (hc : Caps L) {ref w : Int} (h0 : 0 ≤ ref) (h1 : ref < 2 ^ 64) : FnX Try.prog E w0 44 [.ptr (.new km) 0, .int .u64 ref, .int .u64 w] H fun v H' =>
    v = .int .i64 (pushR L ref used limit) ∧ NowM own H H' km (pushL L ref w used limit) (pushU L ref used limit) limit := by
  refine V44_ok ?_
  unfold V44
  refine (at_m F M h0 h1).use ?_
  rintro v H1 ⟨s, cs, rfl, hcs⟩ F1 hn1
  have hok : cs.length = 4 ∧ cs.all Am.scalar = true := by
    rcases hcs with ⟨_, rfl⟩ | ⟨th, _, _, hm⟩
    · exact ⟨rfl, rfl⟩
    · exact hm.ok
  rw [zero_86, oS, wW, zcells]
  refine copy4 F1 hok.1 hok.2 fun H2 g1 g2 g3 F2 => ?_
  have hs : Stays H H2 := fun k all pre hk => g2 _ _ _ (s _ _ _ hk)
  have hn2 : H.next ≤ H2.next := by omega
  have M2 := M.frame (fun k all pre _ h => hs k all pre h) hn2
  simp only [fa_86_2, fa_86_0, fa_86_3, oS, ld_9, ld_3, ld_22, Nat.zero_add, loadCell_new E g1]
  unfold pushR pushL pushU
  rcases grows hcs with ⟨e1, kd, b, c, sv, n, rfl, hk, hl⟩ | ⟨t, ws, sv, e1, e0, eth, rfl, hsl⟩
  · rw [e1]
    simp only [List.getElem?_cons_zero, oS, nev_3, hk, cT]
    exact ⟨by trivial, NowM.stays M hs hn2⟩
  · rw [e1]
    have hle := hc t ws (List.mem_of_getElem? e0)
    have hlen := hsl.len22'
    rw [wcs_length] at hlen
    have hrg := M.range
    have hsm := M.small
    have l1 : loadCell E H2 (.new km) 1 = some (.int .i64 used) := by rw [loadCell_new E M2.head]; rfl
    have l2 : loadCell E H2 (.new km) 2 = some (.int .i64 limit) := by rw [loadCell_new E M2.head]; rfl
    simp only [List.getElem?_cons_zero, List.getElem?_cons_succ, oS, nev_3, show ((4 : Int) != 4) = false from rfl, cF, hlen, bin_geq]
    by_cases hf : ws.length = 65536
    · have : ((ws.length : Nat) : Int) ≥ 65536 := by omega
      simp only [dT this, cT, if_pos hf]
      exact ⟨by trivial, NowM.stays M hs hn2⟩
    · have : ¬ ((ws.length : Nat) : Int) ≥ 65536 := by omega
      simp only [dF this, cF, if_neg hf, nP, oS, fa_52_1, fa_52_2, ld_3, Nat.zero_add, l1, l2, bin_geq, true_and]
      by_cases hroom : 1 ≤ limit - used
      rotate_left
      · have : used ≥ limit := by omega
        simp only [dT this, cT, if_neg hroom]
        exact ⟨by trivial, NowM.stays M hs hn2⟩
      · have : ¬ used ≥ limit := by omega
        simp only [dF this, cF, if_pos hroom, bin_add, oS]
        rw [wrap_i64 (by omega) (by omega)]
        obtain ⟨H3, q1, q2, q3, q4, F3⟩ := F2.store M2.head (n := 1) (x := .int .i64 (used + 1)) (by simp) rfl
        refine store1W sz_3 rfl q1 ?_
        simp only [List.set_cons_succ, List.set_cons_zero] at q2
        rcases M2.at ref with ⟨f1, _⟩ | ⟨th', k, cap, ex, all, pre, f1, r1, r2, f2, rfl, k2, k3, k4, k5, k6, k7⟩
        · rw [f1] at eth; cases eth
        · rw [f1] at eth; cases eth
          obtain ⟨sv', hcs', hsl'⟩ := k6
          have hkm : ∀ k', own k' ≠ .head → k' ≠ km := fun k' h e => h (e ▸ M.hown)
          have k2' : H3.get k = some (.cells all true pre) := q3 _ _ _ (hkm _ (by rw [k3]; exact fun e => by cases e)) k2
          have l0 : ∀ H9, H9.get km = some (.cells [.slc (.new k) 0 L.length cap ex 4, .int .i64 (used + 1), .int .i64 limit] true []) → loadCell E H9 (.new km) 0 = some (.slc (.new k) 0 L.length cap ex 4) := fun H9 h => by rw [loadCell_new E h]; rfl
          have hw : IntKind.u64.wrap (ref - 1) = ref - 1 := wrap_u64 (by omega) (by omega)
          simp only [fa_52_0, oS, ld_50, Nat.zero_add, l0 H3 q2, bin_sub, hw, ix_50, nP]
          have hix : 0 ≤ ref - 1 ∧ ref - 1 < ((L.length : Nat) : Int) := ⟨by omega, by omega⟩
          simp only [if_pos hix, oS, fa_86_3, ld_22, Nat.zero_add]
          rw [loadCell_new E k2', cell3 hcs', oS, bs_22, o2S]
          obtain ⟨n1, n2, n3, F4⟩ := F3.newCells [AV.int .u64 w]
          have hfirst : firstA E (newCells H3 [AV.int .u64 w]) 1 1 (.slc (.new H3.next) 0 1 1 true 1) = some [AV.int .u64 w] := by
            simp only [firstA]
            rw [rangeOr_new E n1 _ _ (by simp)]
            rfl
          have stay4 : ∀ k' all pre, own k' ≠ .head → H2.get k' = some (.cells all true pre) → (newCells H3 [AV.int .u64 w]).get k' = some (.cells all true pre) := fun k' all pre h h' => n2 _ _ _ (q3 _ _ _ (hkm _ h) h')
          have hsl4 : SlcAt (newCells H3 [AV.int .u64 w]) own (.ws (ref - 1).toNat) sv' (wcs ws) := hsl'.keep fun k' all pre e h => ⟨stay4 _ _ _ (by rw [e]; exact fun e => by cases e) h, e⟩
          obtain ⟨H5, q, a1, a2, a3, a4, F5⟩ := app_ok (E := E) F4 hsl4 (bytes := 8) (m := 1) [AV.int .u64 w] rfl (by omega) rfl ⟨by omega, by rw [wcs_length]; omega⟩
          have head4 := n2 _ _ _ q2
          have list4 := n2 _ _ _ k2'
          have head5 := a4 _ _ _ (by rw [M.hown]; exact fun e => by cases e) head4
          have list5 := a4 _ _ _ (by rw [k3]; exact fun e => by cases e) list4
          have x3 : loadCell E (newCells H3 [AV.int .u64 w]) (.new k) ((ref - 1).toNat * 4 + 3) = some sv' := by rw [loadCell_new E list4, cell3 hcs']
          simp only [l0 _ head4, app_22_22, lenOfA, Option.bind_some, hfirst, x3, and_self, true_and]
          rw [a1, o2S, wcs_length]
          simp only [l0 _ head5, true_and, oS]
          obtain ⟨H6, s1, s2, s3, s4, F6⟩ := F5.store list5 (n := (ref - 1).toNat * 4 + 3) (x := .slc (.new (newCells H3 [AV.int .u64 w]).next) 0 (ws.length + 1) (ws.length + 1) false 1) (by omega) rfl
          refine store1W sz_22 rfl s1 ?_
          have hn4 : (newCells H3 [AV.int .u64 w]).next = H2.next + 1 := by rw [n3, q4]
          rw [hn4] at s2 a3 a2
          have hn6 : H6.next = H2.next + 2 := by rw [s4, a2]
          have hklt := F2.lt k2
          have hkmlt := F2.lt M2.head
          have he : OwnExt own (fun k' => if k' = H2.next + 1 then .ws (ref - 1).toNat else own k') H := fun k' hk => if_neg (by omega)
          have stay6 : ∀ k' all pre, own k' ≠ .head → own k' ≠ .list → own k' ≠ .ws (ref - 1).toNat → H2.get k' = some (.cells all true pre) → H6.get k' = some (.cells all true pre) := fun k' all pre h1 h2 h3 h =>
            s3 _ _ _ (fun e => h2 (e ▸ k3)) (a4 _ _ _ h3 (stay4 _ _ _ h1 h))
          have hold : ∀ k', k' < H2.next + 1 → (fun k' => if k' = H2.next + 1 then Tag.ws (ref - 1).toNat else own k') k' = own k' := fun k' hk => if_neg (by omega)
          refine ⟨.slc (.new k) 0 L.length cap ex 4, cells.set ((ref - 1).toNat * 4 + 3) (.slc (.new (H2.next + 1)) 0 (ws.length + 1) (ws.length + 1) false 1), fun k' => if k' = H2.next + 1 then .ws (ref - 1).toNat else own k', ?_, he, ?_⟩
          · refine M2.turn F2 (s3 _ _ _ (fun e => by have := M.hown; rw [e, k3] at this; cases this) head5) ⟨k, cap, ex, _, [], rfl, s2, ?_, ?_, k5⟩ (by rw [List.length_set]; exact M.len) (fun j hj => cut_set hj) ⟨by omega, by omega⟩ (fun k' hk => hold k' (by omega)) ?_ ?_ ?_
            · rw [List.take_set, k4]
            · exact (hold k (by omega)).trans k3
            · intro k' hk
              exact (if_neg (by omega)).trans (M2.high k' (by omega))
            · intro k' al pr j hj ho h
              exact stay6 _ _ _ (by rw [ho]; exact fun e => by cases e) (by rw [ho]; exact fun e => by cases e) (by rw [ho]; intro e; cases e; exact hj rfl) h
            · rw [cut_set' (by rw [cut4 k4 (by omega)]; exact hcs')]
              refine ⟨_, rfl, .inr ⟨H2.next + 1, ws.length + 1, false, _, q, ?_, s3 _ _ _ (by omega) a3, ?_, if_pos rfl, ?_⟩⟩
              · rw [wcs_length]; simp
              · rw [List.take_of_length_le (by simp [wcs])]
                simp [wcs]
              · rw [wcs_length]; simp
          · intro k' al pr hk h
            exact stay6 _ _ _ (by rw [hk]; exact fun e => by cases e) (by rw [hk]; exact fun e => by cases e) (by rw [hk]; exact fun e => by cases e) (hs _ _ _ h)

theorem drop_m (F : Fine H) (M : Mp H km mv cells L used limit own) (hsh : Short L) {ref : Int} (h0 : 0 ≤ ref) (h1 : ref < 2 ^ 64) : FnX Try.prog E w0 45 [.ptr (.new km) 0, .int .u64 ref] H fun v H' =>
    v = .tup [.int .u64 (dropR L ref).1, .int .i64 (dropR L ref).2] ∧ NowM own H H' km (dropL L ref) used limit := by
  refine V45_ok ?_
  unfold V45
  refine (at_m F M h0 h1).use ?_
  rintro v H1 ⟨s, cs, rfl, hcs⟩ F1 hn1
  have hok : cs.length = 4 ∧ cs.all Am.scalar = true := by
    rcases hcs with ⟨_, rfl⟩ | ⟨th, _, _, hm⟩
    · exact ⟨rfl, rfl⟩
    · exact hm.ok
  rw [zero_86, oS, wW, zcells]
  refine copy4 F1 hok.1 hok.2 fun H2 g1 g2 g3 F2 => ?_
  have hs : Stays H H2 := fun k all pre hk => g2 _ _ _ (s _ _ _ hk)
  have hn2 : H.next ≤ H2.next := by omega
  have M2 := M.frame (fun k all pre _ h => hs k all pre h) hn2
  simp only [fa_86_2, fa_86_0, fa_86_3, oS, ld_9, ld_3, ld_22, Nat.zero_add, loadCell_new E g1]
  unfold dropR dropL
  rcases grows hcs with ⟨e1, kd, b, c, sv, n, rfl, hk, hl⟩ | ⟨t, ws, sv, e1, e0, eth, rfl, hsl⟩
  · rw [e1]
    simp only [List.getElem?_cons_zero, List.getElem?_cons_succ, oS, nev_3, hk, cT, hl]
    exact ⟨by trivial, NowM.stays M hs hn2⟩
  · rw [e1]
    have hlen := hsl.len22'
    rw [wcs_length] at hlen
    have hws := hsh _ (List.mem_of_getElem? e0) ws rfl
    have hrg := M.range
    have hsm := M.small
    simp only [List.getElem?_cons_zero, List.getElem?_cons_succ, oS, nev_3, show ((4 : Int) != 4) = false from rfl, cF, hlen, eqv_3]
    by_cases hz : ws.length = 0
    · have : (((ws.length : Nat) : Int) == 0) = true := by rw [hz]; rfl
      simp only [this, cT, if_pos hz]
      exact ⟨by trivial, NowM.stays M hs hn2⟩
    · have hz' : (((ws.length : Nat) : Int) == 0) = false := by simpa using hz
      simp only [hz', cF, if_neg hz, nP, oS, fa_52_0, ld_50, Nat.zero_add]
      rcases M2.at ref with ⟨f1, _⟩ | ⟨th', k, cap, ex, all, pre, f1, r1, r2, f2, rfl, k2, k3, k4, k5, k6, k7⟩
      · rw [f1] at eth; cases eth
      · rw [f1] at eth; cases eth
        obtain ⟨sv', hcs', hsl'⟩ := k6
        have hsl2 : SlcAt H2 own (.ws (ref - 1).toNat) sv (wcs ws) := hsl.keep fun k' al pr e h => ⟨hs _ _ _ h, e⟩
        have l0 : loadCell E H2 (.new km) 0 = some (.slc (.new k) 0 L.length cap ex 4) := by rw [loadCell_new E M2.head]; rfl
        have hw : IntKind.u64.wrap (ref - 1) = ref - 1 := wrap_u64 (by omega) (by omega)
        have hw2 : IntKind.i64.wrap (((ws.length : Nat) : Int) - 1) = ((ws.length - 1 : Nat) : Int) := by rw [wrap_i64 (by omega) (by omega)]; omega
        have hix : 0 ≤ ref - 1 ∧ ref - 1 < ((L.length : Nat) : Int) := ⟨by omega, by omega⟩
        simp only [l0, oS, bin_sub, hw, hw2, ix_50, if_pos hix, true_and]
        obtain ⟨p, i1, ⟨b, rfl, hob, al2, pr2, hb, htake, cap2, ex2, hsv, hcap2⟩, i2⟩ := hsl2.at22 (n := ws.length - 1) (by rw [wcs_length]; omega) .i64
        rw [wcs_length] at htake hsv hcap2
        subst hsv
        rw [cut_22 _ (.new b) _ _ _ _ _ (by omega)]
        simp only [oS, fa_86_3, Nat.zero_add]
        obtain ⟨H3, q1, q2, q3, q4, F3⟩ := F2.store k2 (n := (ref - 1).toNat * 4 + 3) (x := .slc (.new b) 0 (ws.length - 1) cap2 ex2 1) (by omega) rfl
        refine store1W sz_22 rfl q1 ?_
        have hkm : ∀ k', own k' ≠ .list → k' ≠ k := fun k' h e => h (e ▸ k3)
        have hkH1 : k < H1.next := by
          rcases Nat.lt_or_ge k H.next with h | h
          · omega
          · have := M.high k h; rw [k3] at this; cases this
        have x3 : loadCell E H3 (.new H1.next) 3 = some (.slc (.new b) 0 ws.length cap2 ex2 1) := by rw [loadCell_new E (q3 _ _ _ (by omega) g1)]; rfl
        have hb3 := q3 _ _ _ (hkm b (by rw [hob]; exact fun e => by cases e)) hb
        simp only [x3, oS, i1]
        have hsl3 : SlcAt H3 own (.ws (ref - 1).toNat) (.slc (.new b) 0 ws.length cap2 ex2 1) (wcs ws) := hsl2.keep fun k' al pr e h => ⟨q3 _ _ _ (hkm k' (by rw [e]; exact fun e => by cases e)) h, e⟩
        obtain ⟨p', i1', _, i2'⟩ := hsl3.at22 (n := ws.length - 1) (by rw [wcs_length]; omega) .i64
        rw [i1] at i1'
        cases i1'
        rw [i2', wcs_get (by omega), oS]
        refine ⟨?_, .slc (.new k) 0 L.length cap ex 4, cells.set ((ref - 1).toNat * 4 + 3) (.slc (.new b) 0 (ws.length - 1) cap2 ex2 1), own, ?_, fun _ _ => rfl, fun k' al pr hk h => q3 _ _ _ (hkm k' (by rw [hk]; exact fun e => by cases e)) (hs _ _ _ h)⟩
        · rw [List.getD_eq_getElem?_getD, List.getElem?_eq_getElem (by omega)]; rfl
        · refine M2.turn F2 (q3 _ _ _ (hkm km (by rw [M.hown]; exact fun e => by cases e)) M2.head) ⟨k, cap, ex, _, [], rfl, q2, by rw [List.take_set, k4], k3, k5⟩ (by rw [List.length_set]; exact M.len) (fun j hj => cut_set hj) ⟨hrg.1, hrg.2.1⟩ (fun _ _ => rfl) (fun k' hk => M2.high k' (by omega)) ?_ ?_
          · intro k' al pr j hj ho h
            exact q3 _ _ _ (hkm k' (by rw [ho]; exact fun e => by cases e)) h
          · rw [cut_set' (by rw [cut4 k4 (by omega)]; exact hcs')]
            refine ⟨_, rfl, .inr ⟨b, cap2, ex2, al2, pr2, ?_, hb3, ?_, hob, ?_⟩⟩
            · rw [wcs_length, List.length_take]
              congr 1
              omega
            · rw [wcs_length, List.length_take]
              have : min (ws.length - 1) ws.length = ws.length - 1 := by omega
              rw [this]
              have := congrArg (List.take (ws.length - 1)) htake
              rw [List.take_take, show min (ws.length - 1) ws.length = ws.length - 1 by omega] at this
              rw [this]
              simp [wcs, List.map_take]
            · rw [wcs_length, List.length_take]; omega
end
end Go.Proofs.Ytjbpdmlpjgejcaa.hp

/-
  What makes things in the document's heap.
-/
open Go.Proofs Go Go.Am
namespace Go.Proofs.Ytjbpdmlpjgejcaa.hp
open Go.Proofs.Ytjbpdmlpjgejcaa.vcs Go.Proofs.Ytjbpdmlpjgejcaa.vp
set_option linter.unusedVariables false
set_option linter.unusedSimpArgs false
set_option maxRecDepth 100000

variable {E : Env} {w0 : World}

theorem build_52 (n : Int) : buildA Try.prog 52 [(2, .int .i64 n)] = some (.agg [.nilSlc, .int .i64 0, .int .i64 n]) := by kernel_rfl
theorem new_m {H : AHeap} (F : Fine H) {n : Int} : FnX Try.prog E w0 23 [.int .i64 n] H fun v H' => v = .ptr (.new H.next) 0 ∧ Mp H' H.next .nilSlc [] [] 0 (cap0 n) (fun k => if k = H.next then .head else .none) ∧ Stays H H' ∧ H'.next = H.next + 1 := by
  refine V23_ok ?_
  unfold V23
  simp only [mxI, mnI, oS, build_52, wW, AV.cells]
  obtain ⟨a, b, c, d⟩ := F.newCells [.nilSlc, .int .i64 0, .int .i64 (cap0 n)]
  refine ⟨by trivial, ⟨a, if_pos rfl, .inl ⟨rfl, rfl, rfl⟩, rfl, by simp, fun i th h => by simp at h, fun k hk => ?_, ?_⟩, b, c⟩
  · have hk : H.next + 1 ≤ k := hk
    exact if_neg (by omega)
  · unfold cap0
    refine ⟨by omega, ?_, ?_⟩
    · split
      · omega
      · split <;> omega
    · split
      · omega
      · split <;> omega

section
variable {H H' : AHeap} {km : Nat} {mv : AV} {cells : List AV} {L : List Th} {used limit : Int} {own own' : Own}

def MakesM (own : Own) (H : AHeap) (km : Nat) (L : List Th) (used limit : Int) (th : Th) (cost : Int) (v : AV) (H' : AHeap) : Prop :=
  if cost ≤ limit - used then v = .tup [.int .u64 (L.length + 1 : Nat), .int .i64 0] ∧ NowM own H H' km (L ++ [th]) (used + cost) limit
  else v = .tup [.int .u64 0, .int .i64 4] ∧ NowM own H H' km L used limit

theorem bs_50 (H : AHeap) (a b c d : AV) : buildSliceA Try.prog H 50 1 [(0, .agg [a, b, c, d])] = some (.slc (.new H.next) 0 1 1 true 4, newCells H [a, b, c, d]) := by kernel_rfl

theorem make_m (F : Fine H) (M : Mp H km mv cells L used limit own) (hlim : L.length + 1 < 2 ^ 40) {cs : List AV} {th : Th} (hT : MAt H own L.length cs th) {cost : Int} (hc : 0 ≤ cost) :
    FnX Try.prog E w0 49 [.ptr (.new km) 0, .agg cs, .int .i64 cost] H (MakesM own H km L used limit th cost) := by
  refine V49_ok ?_
  unfold V49
  obtain ⟨hl4, hsc⟩ := hT.ok
  have hcl : (AV.agg cs).cells = cs := rfl
  rw [wW, hcl]
  obtain ⟨n1, n2, n3, F1⟩ := F.newCells cs
  generalize hH1 : newCells H cs = H1 at n1 n2 n3 F1 ⊢
  have hr := M.range
  have hsm := M.small
  have M1 := M.frame (fun k all pre _ h => n2 k all pre h) (by omega)
  have l1 : loadCell E H1 (.new km) 1 = some (.int .i64 used) := by rw [loadCell_new E M1.head]; rfl
  have l2 : loadCell E H1 (.new km) 2 = some (.int .i64 limit) := by rw [loadCell_new E M1.head]; rfl
  simp only [nP, oS, fa_52_1, fa_52_2, ld_3, Nat.zero_add, l1, l2, true_and, bin_sub]
  rw [wrap_i64 (n := limit - used) (by omega) (by omega)]
  simp only [bin_gtr, oS]
  unfold MakesM
  by_cases hroom : cost ≤ limit - used
  rotate_left
  · have : cost > limit - used := by omega
    simp only [dT this, cT, if_neg hroom]
    exact ⟨by trivial, NowM.stays M n2 (by omega)⟩
  · have : ¬ cost > limit - used := by omega
    simp only [dF this, cF, if_pos hroom, bin_add, oS]
    rw [wrap_i64 (by omega) (by omega)]
    obtain ⟨H2, q1, q2, q3, q4, F2⟩ := F1.store M1.head (n := 1) (x := .int .i64 (used + cost)) (by simp) rfl
    refine store1W sz_3 rfl q1 ?_
    simp only [List.set_cons_succ, List.set_cons_zero] at q2
    have hkm : ∀ k', own k' ≠ .head → k' ≠ km := fun k' h e => h (e ▸ M.hown)
    have hkmlt := F.lt M.head
    have l0 : ∀ H9, H9.get km = some (.cells [mv, .int .i64 (used + cost), .int .i64 limit] true []) → loadCell E H9 (.new km) 0 = some mv := fun H9 h => by rw [loadCell_new E h]; rfl
    have box2 := q3 _ _ _ (by omega) n1
    simp only [fa_52_0, oS, ld_50, ld_86, Nat.zero_add, l0 H2 q2]
    rw [loadRange_new E box2, if_pos (by omega), Option.bind_some, oS]
    have htk : (cs.drop 0).take 4 = cs := by rw [List.drop_zero, List.take_of_length_le (by omega)]
    rw [htk]
    obtain ⟨a, b, c, d, rfl⟩ : ∃ a b c d, cs = [a, b, c, d] := by
      match cs, hl4 with
      | [a, b, c, d], _ => exact ⟨a, b, c, d, rfl⟩
    rw [bs_50, o2S]
    obtain ⟨m1, m2, m3, F3⟩ := F2.newCells [a, b, c, d]
    generalize hH3 : newCells H2 [a, b, c, d] = H3 at m1 m2 m3 F3 ⊢
    have hfirst : firstA E H3 4 1 (.slc (.new H2.next) 0 1 1 true 4) = some [a, b, c, d] := by
      simp only [firstA]
      rw [rangeOr_new E m1 _ _ (by simp)]
      rfl
    have head3 := m2 _ _ _ q2
    have nx3 : H3.next = H.next + 2 := by rw [m3, q4, n3]
    -- the list, with one thing more
    have grown : ∃ H5 q all', growA E H3 4 56 mv 1 [a, b, c, d] = some (.slc (.new (H.next + 2)) 0 (L.length + 1) (L.length + 1) false 4, H5) ∧ H5.next = H.next + 3 ∧ H5.get (H.next + 2) = some (.cells all' true q) ∧ all'.take ((L.length + 1) * 4) = cells ++ [a, b, c, d] ∧
        (∀ k' al pr, own k' ≠ .list → H3.get k' = some (.cells al true pr) → H5.get k' = some (.cells al true pr)) ∧ Fine H5 := by
      rcases M.list with ⟨rfl, e2, e3⟩ | ⟨k, cap, ex, all, pre, rfl, g2, g3, g4, g5⟩
      · obtain ⟨p1, p2, p3, F5⟩ := F3.newCells [a, b, c, d]
        refine ⟨newCells H3 [a, b, c, d], [], [a, b, c, d], ?_, by omega, by rw [← nx3]; exact p1, by rw [e2, e3]; rfl, fun k' al pr _ h => p2 _ _ _ h, F5⟩
        rw [e2]
        unfold growA
        rw [if_pos (show [a, b, c, d].length = 1 * 4 from rfl)]
        simp only
        rw [if_neg (by omega), if_pos ⟨by omega, by omega⟩, nx3]
        rfl
      · have g2' : H3.get k = some (.cells all true pre) := m2 _ _ _ (q3 _ _ _ (hkm k (by rw [g4]; exact fun e => by cases e)) (n2 _ _ _ g2))
        have hall : L.length * 4 ≤ all.length := by
          have := congrArg List.length g3
          rw [List.length_take, M.len] at this
          omega
        obtain ⟨H5, q, a1, a2, a3, a4, F5⟩ := F3.growN (E := E) (i := 0) (n := L.length) (cap := cap) (sz := 4) (ex := ex) g2' (by omega) (bytes := 56) (m := 1) [a, b, c, d] rfl (by omega) hsc ⟨by omega, by omega⟩
        rw [nx3] at a1 a2 a3
        refine ⟨H5, q, _, a1, a2, a3, ?_, fun k' al pr hk h => a4 _ _ _ (fun e => hk (e ▸ g4)) h, F5⟩
        rw [List.drop_zero, g3]
        exact List.take_of_length_le (by rw [List.length_append, M.len]; simp; omega)
    obtain ⟨H5, q, all', a1, a2, a3, a3', a4, F5⟩ := grown
    simp only [l0 H3 head3, app_50_50, lenOfA, Option.bind_some, hfirst, a1, o2S, true_and]
    have head5 := a4 _ _ _ (by rw [M.hown]; exact fun e => by cases e) head3
    obtain ⟨H6, s1, s2, s3, s4, F6⟩ := F5.store head5 (n := 0) (x := .slc (.new (H.next + 2)) 0 (L.length + 1) (L.length + 1) false 4) (by simp) rfl
    refine store1W (t := 50) (by kernel_rfl) rfl s1 ?_
    simp only [List.set_cons_zero] at s2
    have l6 : loadCell E H6 (.new km) 0 = some (.slc (.new (H.next + 2)) 0 (L.length + 1) (L.length + 1) false 4) := by rw [loadCell_new E s2]; rfl
    simp only [l6, oS, len_50, cv_3_23, true_and]
    rw [wrap_u64 (by omega) (by omega)]
    have stay : ∀ k' al pr, own k' ≠ .head → own k' ≠ .list → H.get k' = some (.cells al true pr) → H6.get k' = some (.cells al true pr) := fun k' al pr h1 h2 h =>
      s3 _ _ _ (hkm _ h1) (a4 _ _ _ h2 (m2 _ _ _ (q3 _ _ _ (hkm _ h1) (n2 _ _ _ h))))
    have hnew : ∀ k', k' < H.next → (fun k' => if k' = H.next + 2 then Tag.list else own k') k' = own k' := fun k' hk => if_neg (by omega)
    refine ⟨by trivial, .slc (.new (H.next + 2)) 0 (L.length + 1) (L.length + 1) false 4, cells ++ [a, b, c, d], fun k' => if k' = H.next + 2 then .list else own k', ⟨s2, (hnew _ hkmlt).trans M.hown, .inr ⟨H.next + 2, L.length + 1, false, all', q, by simp, s3 _ _ _ (by omega) a3, by simpa using a3', if_pos rfl, by simp⟩, by simp [M.len]; omega, by simpa using hlim, ?_, ?_, ⟨by omega, by omega, hr.2.2⟩⟩, fun k' hk => hnew k' hk, fun k' al pr hk h => stay _ _ _ (by rw [hk]; exact fun e => by cases e) (by rw [hk]; exact fun e => by cases e) h⟩
    · intro i x hx
      have hkeep : ∀ k' al pr, own k' = .ws i → H.get k' = some (.cells al true pr) → H6.get k' = some (.cells al true pr) ∧ (fun k' => if k' = H.next + 2 then Tag.list else own k') k' = own k' :=
        fun k' al pr e h => ⟨stay _ _ _ (by rw [e]; exact fun e => by cases e) (by rw [e]; exact fun e => by cases e) h, hnew k' (F.lt h)⟩
      by_cases hi : i < L.length
      · rw [List.getElem?_append_left hi] at hx
        rw [List.drop_append_of_le_length (by rw [M.len]; omega), List.take_append_of_le_length (by rw [List.length_drop, M.len]; omega)]
        exact (M.things i x hx).keep hkeep
      · have hi2 : i = L.length := by
          have := (List.getElem?_eq_some_iff.1 hx).1
          simp at this
          omega
        subst hi2
        rw [List.getElem?_append_right (by omega), Nat.sub_self] at hx
        cases hx
        have : ((cells ++ [a, b, c, d]).drop (L.length * 4)).take 4 = [a, b, c, d] := by
          rw [← M.len, List.drop_left]; rfl
        rw [this]
        exact hT.keep hkeep
    · intro k' hk
      exact (if_neg (by omega)).trans (M.high k' (by omega))

theorem tup2 {own : Own} {th : Th} {cost : Int} {v : AV} (h : MakesM own H km L used limit th cost v H') : ∃ a b, v = .tup [a, b] ∧ MakesM own H km L used limit th cost (.tup [a, b]) H' := by
  have h' := h
  unfold MakesM at h'
  split at h'
  · obtain ⟨rfl, _⟩ := h'; exact ⟨_, _, rfl, h⟩
  · obtain ⟨rfl, _⟩ := h'; exact ⟨_, _, rfl, h⟩

theorem build_86t (s : List UInt8) : buildA Try.prog 86 [(0, .int .i64 1), (1, .int .i64 5), (2, .str s)] = some (.agg [.int .i64 1, .int .i64 5, .str s, .nilSlc]) := by kernel_rfl
theorem build_86e (t : Int) : buildA Try.prog 86 [(0, .int .i64 4), (1, .int .i64 t)] = some (.agg [.int .i64 4, .int .i64 t, .str [], .nilSlc]) := by kernel_rfl
theorem build_86n (k t : Int) : buildA Try.prog 86 [(0, .int .i64 k), (1, .int .i64 t), (3, .nilSlc)] = some (.agg [.int .i64 k, .int .i64 t, .str [], .nilSlc]) := by kernel_rfl
theorem build_86s (k t : Int) (o : Am.Id) (i len cap : Nat) (ex : Bool) (sz : Nat) : buildA Try.prog 86 [(0, .int .i64 k), (1, .int .i64 t), (3, .slc o i len cap ex sz)] = some (.agg [.int .i64 k, .int .i64 t, .str [], .slc o i len cap ex sz]) := by kernel_rfl
theorem build_86x {g : Tag} {sv : AV} {cs : List AV} (h : SlcAt H own g sv cs) (k t : Int) : buildA Try.prog 86 [(0, .int .i64 k), (1, .int .i64 t), (3, sv)] = some (.agg [.int .i64 k, .int .i64 t, .str [], sv]) := by
  rcases h with ⟨rfl, _⟩ | ⟨b, cap, ex, all, pre, rfl, _⟩
  · exact build_86n k t
  · exact build_86s ..

theorem const_m (F : Fine H) (M : Mp H km mv cells L used limit own) (hlim : L.length + 1 < 2 ^ 40) {s : List UInt8} :
    FnX Try.prog E w0 37 [.ptr (.new km) 0, .str s] H fun v H' => v = .int .u64 (L.length + 1 : Nat) ∧ NowM own H H' km (L ++ [.text s]) used limit := by
  refine V37_ok ?_
  unfold V37
  rw [build_86t, oS]
  refine (make_m F M hlim (th := .text s) rfl (cost := 0) (by omega)).use ?_
  intro v H' hm _ _
  have hr := M.range
  unfold MakesM at hm
  rw [if_pos (by omega)] at hm
  obtain ⟨rfl, h⟩ := hm
  rw [Int.add_zero] at h
  simp only [ex0, ex1, oS]
  exact ⟨by trivial, h⟩

theorem text_m (F : Fine H) (M : Mp H km mv cells L used limit own) (hlim : L.length + 1 < 2 ^ 40) {s : List UInt8} :
    FnX Try.prog E w0 38 [.ptr (.new km) 0, .str s] H fun v H' => if 65536 < s.length then v = .tup [.int .u64 0, .int .i64 3] ∧ NowM own H H' km L used limit else MakesM own H km L used limit (.text s) (textCost s) v H' := by
  refine V38_ok ?_
  unfold V38
  rw [len_9, oS, bin_gtr, oS, condW_bool]
  constructor
  · intro h
    have h : (s.length : Int) > 65536 := of_decide_eq_true h
    rw [if_pos (by omega)]
    exact ⟨rfl, NowM.stays M (fun _ _ _ h => h) (Nat.le_refl _)⟩
  · intro h
    have h : ¬ (s.length : Int) > 65536 := of_decide_eq_false h
    simp only [if_neg (show ¬ 65536 < s.length by omega)]
    have hq : ((s.length : Int) + 7).tdiv 8 = ((s.length : Int) + 7) / 8 := Int.tdiv_eq_ediv_of_nonneg (by omega)
    rw [build_86t, oS, oS, bin_add, oS, wrap_i64 (by omega) (by omega), bin_quo, if_neg (by omega), oS, hq, wrap_i64 (by omega) (by omega), bin_add, oS, wrap_i64 (by omega) (by omega)]
    refine (make_m F M hlim (th := .text s) rfl (by omega)).use ?_
    intro v H' hm _ _
    obtain ⟨a, b, rfl, hm⟩ := tup2 hm
    simp only [ex0, ex1, oS]
    exact hm

theorem Mp.more (M : Mp H km mv cells L used limit own) (F : Fine H) (hs : Stays H H') (hn : H.next ≤ H'.next) (he : OwnExt own own' H) (hh : ∀ k, H'.next ≤ k → own' k = .none) : Mp H' km mv cells L used limit own' := by
  refine ⟨hs _ _ _ M.head, (he _ (F.lt M.head)).trans M.hown, ?_, M.len, M.small, ?_, hh, M.range⟩
  · rcases M.list with h | ⟨k, cap, ex, all, pre, h1, h2, h3, h4, h5⟩
    · exact .inl h
    · exact .inr ⟨k, cap, ex, all, pre, h1, hs _ _ _ h2, h3, (he _ (F.lt h2)).trans h4, h5⟩
  · intro i th h
    exact (M.things i th h).keep fun k all pre e h => ⟨hs _ _ _ h, he _ (F.lt h)⟩

theorem MakesM.from {H'' : AHeap} {th : Th} {cost : Int} {v : AV} (h : MakesM own' H' km L used limit th cost v H'') (F : Fine H) (hs : Stays H H') (hn : H.next ≤ H'.next) (he : OwnExt own own' H) : MakesM own H km L used limit th cost v H'' := by
  unfold MakesM at h ⊢
  split
  · rename_i hr; rw [if_pos hr] at h; exact ⟨h.1, h.2.from F hs hn he⟩
  · rename_i hr; rw [if_neg hr] at h; exact ⟨h.1, h.2.from F hs hn he⟩

theorem empty_m (F : Fine H) (M : Mp H km mv cells L used limit own) (hlim : L.length + 1 < 2 ^ 40) {t : Int} :
    FnX Try.prog E w0 41 [.ptr (.new km) 0, .int .i64 t] H (MakesM own H km L used limit (.grow t []) 1) := by
  refine V41_ok ?_
  unfold V41
  rw [build_86e, oS]
  refine (make_m F M hlim (th := .grow t []) ⟨.nilSlc, rfl, .inl ⟨rfl, rfl⟩⟩ (by omega)).use ?_
  intro v H' hm _ _
  obtain ⟨a, b, rfl, hm⟩ := tup2 hm
  simp only [ex0, ex1, oS]
  exact hm

/-- Words of one's own. -/
theorem own_m (F : Fine H) {v : AV} {ws : List Int} (hvf : lenOfA v = some ws.length ∧ firstA E H 1 ws.length v = some (wcs ws)) (hl : ws.length < 2 ^ 40) (g : Tag) :
    FnX Try.prog E w0 50 [v] H fun r H' => Stays H H' ∧ SlcAt H' (fun k => if H.next ≤ k ∧ k < H'.next then g else .none) g r (wcs ws) := by
  refine V50_ok ?_
  unfold V50
  rw [app_22_22, hvf.1]
  simp only [Option.bind_some, hvf.2]
  by_cases h0 : ws.length = 0
  · have : ws = [] := List.length_eq_zero_iff.1 h0
    subst this
    have hg : growA E H 1 8 .nilSlc 0 [] = some (.nilSlc, H) := by unfold growA; rfl
    simp only [List.length_nil, wcs, List.map_nil, hg, o2S]
    exact ⟨fun _ _ _ h => h, .inl ⟨rfl, rfl⟩⟩
  · obtain ⟨H6, q, a1, a2, a3, a4, F6⟩ := app_ok (E := E) F (own := fun _ => Tag.none) (g := .list) (sv := .nilSlc) (cs := []) (.inl ⟨rfl, rfl⟩) (bytes := 8) (m := ws.length) (wcs ws) (wcs_length ws) h0 (wcs_scalar ws) ⟨by omega, by simp only [List.length_nil]; omega⟩
    rw [a1, o2S]
    simp only [List.length_nil, Nat.zero_add, List.nil_append] at a3 ⊢
    exact ⟨fun k all pre h => a4 k all pre (fun e => by cases e) h, .inr ⟨H.next, _, _, wcs ws, q, by rw [wcs_length], a3, List.take_length, if_pos ⟨Nat.le_refl _, by omega⟩, by rw [wcs_length]; exact Nat.le_refl _⟩⟩

theorem record_m (F : Fine H) (M : Mp H km mv cells L used limit own) (hlim : L.length + 1 < 2 ^ 40) {t : Int} {v : AV} {ws : List Int} (hvl : ∀ H', lenV Try.prog H' 22 v = some (.int .i64 ws.length)) (hvf : lenOfA v = some ws.length ∧ firstA E H 1 ws.length v = some (wcs ws)) (hl : ws.length < 2 ^ 40) :
    FnX Try.prog E w0 39 [.ptr (.new km) 0, .int .i64 t, v] H (MakesM own H km L used limit (.flat t ws) (1 + ws.length)) := by
  refine V39_ok ?_
  unfold V39
  refine (own_m F hvf hl (.ws L.length)).use ?_
  rintro r H1 ⟨s, hsl⟩ F1 hn
  rw [build_86x hsl, oS, hvl, oS, bin_add, oS, wrap_i64 (by omega) (by omega)]
  have he : OwnExt own (fun k => if k < H.next then own k else if k < H1.next then .ws L.length else .none) H := fun k hk => if_pos hk
  have M1 : Mp H1 km mv cells L used limit (fun k => if k < H.next then own k else if k < H1.next then .ws L.length else .none) :=
    M.more F s hn he fun k hk => (if_neg (by omega)).trans (if_neg (by omega))
  refine (make_m F1 M1 hlim (th := .flat t ws) ⟨2, r, .inl rfl, rfl, hsl.keep fun k all pre e h => ⟨h, ?_⟩⟩ (by omega)).use ?_
  · by_cases hk : H.next ≤ k ∧ k < H1.next
    · exact (if_neg (by omega)).trans (if_pos hk.2)
    · rw [if_neg hk] at e; cases e
  · intro v H' hm _ _
    obtain ⟨a, b, rfl, hm⟩ := tup2 hm
    simp only [ex0, ex1, oS]
    exact hm.from F s hn he

theorem fill_m (F : Fine H) (M : Mp H km mv cells L used limit own) (hlim : L.length + 1 < 2 ^ 40) {t n w : Int} :
    FnX Try.prog E w0 40 [.ptr (.new km) 0, .int .i64 t, .int .i64 n, .int .u64 w] H fun v H' => if n < 0 ∨ n > 65536 then v = .tup [.int .u64 0, .int .i64 3] ∧ NowM own H H' km L used limit
      else MakesM own H km L used limit (.flat t (List.replicate n.toNat w)) (1 + n) v H' := by
  refine V40_ok ?_
  unfold V40
  have refl : NowM own H H km L used limit := NowM.stays M (fun _ _ _ h => h) (Nat.le_refl _)
  rw [bin_lss, oS]
  by_cases h0 : n < 0
  · simp only [h0, decide_true, wB, btf, vF, oS, pB, if_true, cT, true_or]
    exact ⟨by trivial, refl⟩
  simp only [h0, decide_false, wB, bff, vT, oS, bin_gtr, pB, Bool.false_eq_true, if_false, false_or]
  by_cases h1 : n > 65536
  · simp only [h1, decide_true, cT, if_true]
    exact ⟨by trivial, refl⟩
  have hr := M.range
  have l1 : loadCell E H (.new km) 1 = some (.int .i64 used) := by rw [loadCell_new E M.head]; rfl
  have l2 : loadCell E H (.new km) 2 = some (.int .i64 limit) := by rw [loadCell_new E M.head]; rfl
  simp only [h1, decide_false, cF, if_false, bin_add, oS, nP, fa_52_1, fa_52_2, ld_3, Nat.zero_add, l1, l2, true_and, bin_sub]
  rw [wrap_i64 (n := 1 + n) (by omega) (by omega), wrap_i64 (n := limit - used) (by omega) (by omega), bin_gtr, oS]
  by_cases hroom : 1 + n ≤ limit - used
  rotate_left
  · have : 1 + n > limit - used := by omega
    simp only [dT this, cT, MakesM, if_neg hroom]
    exact ⟨by trivial, refl⟩
  have hng : ¬ 1 + n > limit - used := by omega
  simp only [dF hng, cF]
  obtain ⟨m, rfl⟩ : ∃ m : Nat, n = (m : Int) := ⟨n.toNat, by omega⟩
  refine loop40_0 (I := fun j t0 t1 t2 t3 t10 t11 H' => t0 = .ptr (.new km) 0 ∧ t1 = .int .i64 t ∧ t2 = .int .i64 (m : Int) ∧ t3 = .int .u64 w ∧
      ∃ k : Nat, t11 = .int .i64 (k : Int) ∧ k + j = m ∧ Fine H' ∧ Stays H H' ∧ H.next ≤ H'.next ∧ SlcAt H' (fun k => if H.next ≤ k then Tag.ws L.length else .none) (.ws L.length) t10 (wcs (List.replicate k w))) ?_ (n := m)
    ⟨rfl, rfl, rfl, rfl, 0, rfl, by omega, F, fun _ _ _ h => h, Nat.le_refl _, .inl ⟨rfl, rfl⟩⟩
  rintro j _ _ _ _ t10 _ H3 ⟨rfl, rfl, rfl, rfl, k, rfl, hk, F3, hs3, hn3, hsl⟩
  intros
  unfold B40_0
  rw [bin_lss, oS, condW_bool]
  constructor
  · intro hlt
    have hlt : k < m := by have := of_decide_eq_true hlt; omega
    rw [bs_22, o2S, app_22_22]
    obtain ⟨n1, n2, n3, F4⟩ := F3.newCells [AV.int .u64 w]
    have hfirst : firstA E (newCells H3 [AV.int .u64 w]) 1 1 (.slc (.new H3.next) 0 1 1 true 1) = some [AV.int .u64 w] := by
      simp only [firstA]
      rw [rangeOr_new E n1 _ _ (by simp)]
      rfl
    have hsl4 := hsl.keep (H' := newCells H3 [AV.int .u64 w]) fun k all pre e h => ⟨n2 _ _ _ h, e⟩
    obtain ⟨H5, q, a1, a2, a3, a4, F5⟩ := app_ok (E := E) F4 hsl4 (bytes := 8) (m := 1) [AV.int .u64 w] rfl (by omega) rfl ⟨by omega, by rw [wcs_length, List.length_replicate]; omega⟩
    simp only [lenOfA, Option.bind_some, hfirst, a1, o2S, bin_add, oS]
    rw [wrap_i64 (by omega) (by omega)]
    refine ⟨j - 1, by omega, rfl, rfl, rfl, rfl, rfl, k + 1, by simp, by omega, F5, ?_, by omega, .inr ⟨_, (wcs (List.replicate k w)).length + 1, false, _, q, ?_, a3, ?_, if_pos (by omega), ?_⟩⟩
    · intro b al pr hb
      refine a4 b al pr ?_ (n2 _ _ _ (hs3 _ _ _ hb))
      have := F.lt hb
      rw [if_neg (by omega)]
      exact fun e => by cases e
    · simp [wcs]
    · rw [List.take_of_length_le (by simp [wcs]), List.replicate_succ']
      simp [wcs]
    · rw [wcs_length, wcs_length, List.length_replicate, List.length_replicate]; exact Nat.le_refl _
  · intro hge
    have hge : ¬ (k : Int) < m := of_decide_eq_false hge
    have hj : j = 0 := by omega
    have hkm : k = m := by omega
    subst hj hkm
    rw [build_86x hsl, oS, bin_add, oS, wrap_i64 (by omega) (by omega)]
    have he : OwnExt own (fun b => if b < H.next then own b else if b < H3.next then .ws L.length else .none) H := fun b hb => if_pos hb
    have M3 : Mp H3 km mv cells L used limit (fun b => if b < H.next then own b else if b < H3.next then .ws L.length else .none) :=
      M.more F hs3 hn3 he fun b hb => (if_neg (by omega)).trans (if_neg (by omega))
    refine (make_m F3 M3 hlim (th := .flat t (List.replicate k w)) ⟨3, t10, .inr rfl, rfl, hsl.keep fun b al pr e h => ⟨h, ?_⟩⟩ (by omega)).use ?_
    · have := F3.lt h
      by_cases hb : H.next ≤ b
      · exact (if_neg (by omega)).trans (if_pos this)
      · rw [if_neg hb] at e; cases e
    · intro v H' hm _ _
      obtain ⟨a, b, rfl, hm⟩ := tup2 hm
      simp only [ex0, ex1, oS, Int.toNat_natCast]
      exact hm.from F hs3 hn3 he
end
end Go.Proofs.Ytjbpdmlpjgejcaa.hp

/-
  Both heaps, side by side: alike, whole, does.
-/
open Go.Proofs Go Go.Am
namespace Go.Proofs.Ytjbpdmlpjgejcaa.hp
open Go.Proofs.Ytjbpdmlpjgejcaa.vcs Go.Proofs.Ytjbpdmlpjgejcaa.vp
set_option linter.unusedVariables false
set_option linter.unusedSimpArgs false
set_option maxRecDepth 100000

variable {E : Env} {w0 : World}

/-- No object is both heaps'. -/
def Apart (o1 o2 : Own) : Prop := ∀ k, o1 k = .none ∨ o2 k = .none
/-- Both heaps hold the same things; what X tells is neither's. -/
def Both (H : AHeap) (kh km : Nat) (L : List Th) (used limit : Int) (X : Nat → Prop) : Prop :=
  ∃ lv tvs o1 mv cs o2, Rp H kh lv tvs L used limit o1 ∧ Mp H km mv cs L used limit o2 ∧ Apart o1 o2 ∧ ∀ k, X k → o1 k = .none ∧ o2 k = .none

section
variable {H H' : AHeap} {kh km : Nat} {L : List Th} {used limit : Int} {X : Nat → Prop}

theorem Both.frame (B : Both H kh km L used limit X) (hk : ∀ k all pre, ¬ X k → H.get k = some (.cells all true pre) → H'.get k = some (.cells all true pre)) (hn : H.next ≤ H'.next) : Both H' kh km L used limit X := by
  obtain ⟨lv, tvs, o1, mv, cs, o2, R, M, a, x⟩ := B
  exact ⟨lv, tvs, o1, mv, cs, o2, R.frame (fun k all pre h => hk k all pre fun e => h (x k e).1) hn, M.frame (fun k all pre h => hk k all pre fun e => h (x k e).2) hn, a, x⟩
theorem Both.stays (B : Both H kh km L used limit X) (s : Stays H H') (hn : H.next ≤ H'.next) : Both H' kh km L used limit X := B.frame (fun k all pre _ => s k all pre) hn
theorem Both.less {Y : Nat → Prop} (B : Both H kh km L used limit X) (h : ∀ k, Y k → X k) : Both H kh km L used limit Y := by
  obtain ⟨lv, tvs, o1, mv, cs, o2, R, M, a, x⟩ := B
  exact ⟨lv, tvs, o1, mv, cs, o2, R, M, a, fun k hk => x k (h k hk)⟩
/-- What is new is neither's. -/
theorem Both.fresh (B : Both H kh km L used limit X) {n : Nat} (hn : H.next ≤ n) : Both H kh km L used limit (fun k => X k ∨ k = n) := by
  obtain ⟨lv, tvs, o1, mv, cs, o2, R, M, a, x⟩ := B
  refine ⟨lv, tvs, o1, mv, cs, o2, R, M, a, fun k hk => ?_⟩
  rcases hk with hk | rfl
  · exact x k hk
  · exact ⟨R.high _ hn, M.high _ hn⟩

/-- A call of both. -/
theorem two_calls (F : Fine H) (B : Both H kh km L used limit X) (hX : ∀ k, X k → k < H.next) {L' : List Th} {used' : Int} {f g : FuncId} {xs ys : List AV} {P1 P2 : AV → Prop}
    (h1 : ∀ {lv tvs own}, Rp H kh lv tvs L used limit own → FnX Try.prog E w0 f xs H fun v H' => P1 v ∧ Now own H H' kh L' used' limit)
    (h2 : ∀ {H1 mv cs own}, Fine H1 → Mp H1 km mv cs L used limit own → FnX Try.prog E w0 g ys H1 fun v H' => P2 v ∧ NowM own H1 H' km L' used' limit)
    {Q1 : AV → AHeap → Prop}
    (hq : ∀ v1 H1, P1 v1 → Fine H1 → (∀ k all pre, X k → H.get k = some (.cells all true pre) → H1.get k = some (.cells all true pre)) →
      (∀ {Q2 : AV → AHeap → Prop}, (∀ v2 H2, P2 v2 → Fine H2 → (∀ k all pre, X k → H.get k = some (.cells all true pre) → H2.get k = some (.cells all true pre)) → Both H2 kh km L' used' limit X → H.next ≤ H2.next → Q2 v2 H2) → FnX Try.prog E w0 g ys H1 Q2) → Q1 v1 H1) :
    FnX Try.prog E w0 f xs H Q1 := by
  obtain ⟨lv, tvs, o1, mv, cs, o2, R, M, a, x⟩ := B
  refine (h1 R).use ?_
  rintro v1 H1 ⟨p1, lv', tvs', o1', R1, e1, on1⟩ F1 n1
  have M1 : Mp H1 km mv cs L used limit o2 := M.frame (fun k all pre hk h => on1 k all pre ((a k).resolve_right hk) h) n1
  refine hq v1 H1 p1 F1 (fun k all pre hk h => on1 k all pre (x k hk).1 h) ?_
  intro Q2 hq2
  refine (h2 F1 M1).use ?_
  rintro v2 H2 ⟨p2, mv', cs', o2', M2, e2, on2⟩ F2 n2
  have a' : Apart o1' o2 := by
    intro k
    by_cases hk : k < H.next
    · rw [e1 k hk]; exact a k
    · exact .inr (M.high k (by omega))
  have R2 : Rp H2 kh lv' tvs' L' used' limit o1' := R1.frame (fun k all pre hk h => on2 k all pre ((a' k).resolve_left hk) h) n2
  refine hq2 v2 H2 p2 F2 (fun k all pre hk h => on2 k all pre (x k hk).2 (on1 k all pre (x k hk).1 h)) ⟨lv', tvs', o1', mv', cs', o2', R2, M2, ?_, fun k hk => ?_⟩ (by omega)
  · intro k
    by_cases hk : k < H1.next
    · rw [e2 k hk]; exact a' k
    · exact .inl (R1.high k (by omega))
  · have hk1 := hX k hk
    exact ⟨(e1 k hk1).trans (x k hk).1, (e2 k (by omega)).trans (x k hk).2⟩

theorem alike_ok (F : Fine H) (B : Both H kh km L used limit X) {ref : Int} (h0 : 0 ≤ ref) (h1 : ref < 2 ^ 64) : FnX Try.prog E w0 25 [.ptr (.new kh) 0, .ptr (.new km) 0, .int .u64 ref] H fun v H' => v = .bool true ∧ Stays H H' := by
  refine V25_ok ?_
  unfold V25
  obtain ⟨lv, tvs, o1, mv, cs, o2, R, M, a, x⟩ := B
  refine (bytes_ok R h0 h1).use ?_
  rintro v H1 ⟨rfl, rfl⟩ _ _
  simp only [ex0, ex1, oS]
  refine (bytes_m F M h0 h1).use ?_
  rintro v H2 ⟨s2, rfl⟩ F2 n2
  have R2 := R.frame (fun k all pre _ h => s2 k all pre h) n2
  have M2 := M.frame (fun k all pre _ h => s2 k all pre h) n2
  simp only [ex0, ex1, oS]
  refine (len_ok R2 h0 h1).use ?_
  rintro v H3 ⟨rfl, rfl⟩ _ _
  simp only [ex0, ex1, oS]
  refine (len_m F2 M2 h0 h1).use ?_
  rintro v H4 ⟨s4, rfl⟩ F4 n4
  have R4 := R2.frame (fun k all pre _ h => s4 k all pre h) n4
  have M4 := M2.frame (fun k all pre _ h => s4 k all pre h) n4
  simp only [ex0, ex1, oS, eqv_9, eqv_4, eqv_3, beq_self_eq_true, wB, btt, vT, pB, if_true, gT]
  refine (type_ok R4 h0 h1).use ?_
  rintro v H5 ⟨rfl, rfl⟩ _ _
  refine (type_m F4 M4 h0 h1).use ?_
  rintro v H6 ⟨s6, rfl⟩ _ _
  simp only [oS, eqv_3, beq_self_eq_true, pB, if_true]
  exact ⟨by trivial, fun k all pre h => s6 _ _ _ (s4 _ _ _ (s2 _ _ _ h))⟩

theorem whole_ok (F : Fine H) (B : Both H kh km L used limit X) (hs : Short L) {ref : Int} (h0 : 0 ≤ ref) (h1 : ref < 2 ^ 64) : FnX Try.prog E w0 26 [.ptr (.new kh) 0, .ptr (.new km) 0, .int .u64 ref] H fun v H' => v = .bool true ∧ Stays H H' := by
  refine V26_ok ?_
  unfold V26
  have len0 : ∃ lv tvs o1 mv cs o2, Rp H kh lv tvs L used limit o1 ∧ Mp H km mv cs L used limit o2 ∧ Apart o1 o2 := by
    obtain ⟨lv, tvs, o1, mv, cs, o2, R, M, a, x⟩ := B
    exact ⟨lv, tvs, o1, mv, cs, o2, R, M, a⟩
  obtain ⟨lv, tvs, o1, mv, cs, o2, R, M, a⟩ := len0
  refine (len_m F M h0 h1).use ?_
  rintro v H1 ⟨s1, rfl⟩ F1 n1
  simp only [ex0, ex1, oS]
  refine loop26_0 (I := fun n t0 t1 t2 t7 t9 H' => t0 = .ptr (.new kh) 0 ∧ t1 = .ptr (.new km) 0 ∧ t2 = .int .u64 ref ∧ t7 = .int .i64 (lenR L ref).1 ∧ ∃ i : Int, t9 = .int .i64 i ∧ -1 ≤ i ∧ i ≤ 200 ∧ i + n = 200 ∧ Fine H' ∧ Stays H H' ∧ H.next ≤ H'.next) ?_ (n := 201)
    ⟨rfl, rfl, rfl, rfl, -1, rfl, by omega, by omega, by omega, F1, s1, n1⟩
  rintro n _ _ _ _ _ H2 ⟨rfl, rfl, rfl, rfl, i, rfl, i0, i1, hi, F2, s2, n2⟩
  intros
  have R2 := R.frame (fun k all pre _ h => s2 k all pre h) n2
  have M2 := M.frame (fun k all pre _ h => s2 k all pre h) n2
  unfold B26_0
  rw [bin_leq, oS, wB]
  have done : FnX Try.prog E w0 25 [.ptr (.new kh) 0, .ptr (.new km) 0, .int .u64 ref] H2 fun v H' => v = .bool true ∧ Stays H H' :=
    (alike_ok F2 (X := fun _ => False) ⟨lv, tvs, o1, mv, cs, o2, R2, M2, a, fun k hk => hk.elim⟩ h0 h1).mono fun v H' h => ⟨h.1, fun k all pre hk => h.2 _ _ _ (s2 _ _ _ hk)⟩
  by_cases c1 : i ≤ (lenR L ref).1
  · simp only [c1, decide_true, btt, vT, oS, bin_lss, pB, if_true]
    by_cases c2 : i < 200
    · simp only [c2, decide_true, cT]
      refine (get_ok R2 hs h0 h1).use ?_
      rintro v H3 ⟨rfl, rfl⟩ _ _
      simp only [ex0, ex1, oS]
      refine (get_m F2 M2 h0 h1).use ?_
      rintro v H4 ⟨s4, rfl⟩ F4 n4
      simp only [ex0, ex1, oS, nev_23, nev_3, bne_self_eq_false, wB, bff, vT, pB, Bool.false_eq_true, if_false, cF, bin_add]
      rw [wrap_i64 (by omega) (by omega)]
      exact ⟨n - 1, by omega, rfl, rfl, rfl, rfl, rfl, i + 1, rfl, by omega, by omega, by omega, F4, fun k all pre hk => s4 _ _ _ (s2 _ _ _ hk), by omega⟩
    · simp only [c2, decide_false, cF]
      refine done.use ?_
      intro v H3 h _ _
      exact h
  · simp only [c1, decide_false, bft, vF, oS, pB, Bool.false_eq_true, if_false, cF]
    refine done.use ?_
    intro v H3 h _ _
    exact h

/-- All that is newer than either is neither's. -/
theorem Both.news (B : Both H kh km L used limit X) (F : Fine H) (s : Stays H H') (hn : H.next ≤ H'.next) : Both H' kh km L used limit (fun k => H.next ≤ k ∧ k < H'.next) := by
  obtain ⟨lv, tvs, o1, mv, cs, o2, R, M, a, x⟩ := B.stays s hn
  obtain ⟨lv', tvs', o1', mv', cs', o2', R', M', a', x'⟩ := B
  exact ⟨lv', tvs', o1', mv', cs', o2', R'.frame (fun k all pre _ h => s k all pre h) hn, M'.frame (fun k all pre _ h => s k all pre h) hn, a', fun k hk => ⟨R'.high k hk.1, M'.high k hk.1⟩⟩

theorem makesM_steps {own : Own} {th : Th} {cost : Int} {v : AV} (h : MakesM own H km L used limit th cost v H') : v = .tup [.int .u64 (makeS L used limit th cost).1.1, .int .i64 (makeS L used limit th cost).1.2] ∧ NowM own H H' km (makeS L used limit th cost).2.1 (makeS L used limit th cost).2.2 limit := by
  unfold MakesM at h
  unfold makeS
  split at h
  · rename_i hr; rw [if_pos hr]; exact h
  · rename_i hr; rw [if_neg hr]; exact h
theorem makesP_steps {own : Own} {th : Th} {cost : Int} {v : AV} (h : Makes own H kh L used limit th cost v H') : v = .tup [.int .u64 (makeS L used limit th cost).1.1, .int .i64 (makeS L used limit th cost).1.2] ∧ Now own H H' kh (makeS L used limit th cost).2.1 (makeS L used limit th cost).2.2 limit := makes_steps h

/-- A copy of words: one's own. -/
theorem copy_ok (F : Fine H) {v : AV} {ws : List Int} (hv : Rd E v ws) (hl : ws.length < 2 ^ 40) : ∃ r H6, appendA Try.prog E H 22 .nilSlc 22 v = some (r, H6) ∧ Fine H6 ∧ Stays H H6 ∧ H.next ≤ H6.next ∧
    ((r = .nilSlc ∧ ws = []) ∨ ∃ k cap ex pre, r = .slc (.new k) 0 ws.length cap ex 1 ∧ H.next ≤ k ∧ k < H6.next ∧ H6.get k = some (.cells (wcs ws) true pre)) := by
  have hvf := hv.first H
  rw [app_22_22, hvf.1]
  simp only [Option.bind_some, hvf.2]
  by_cases h0 : ws.length = 0
  · have : ws = [] := List.length_eq_zero_iff.1 h0
    subst this
    have hg : growA E H 1 8 .nilSlc 0 [] = some (.nilSlc, H) := by unfold growA; rfl
    simp only [List.length_nil, wcs, List.map_nil, hg]
    exact ⟨_, _, rfl, F, fun _ _ _ h => h, Nat.le_refl _, .inl ⟨by trivial, by trivial⟩⟩
  · obtain ⟨H6, q, a1, a2, a3, a4, F6⟩ := app_ok (E := E) F (own := fun _ => Tag.none) (g := .list) (sv := .nilSlc) (cs := []) (.inl ⟨rfl, rfl⟩) (bytes := 8) (m := ws.length) (wcs ws) (wcs_length ws) h0 (wcs_scalar ws) ⟨by omega, by simp only [List.length_nil]; omega⟩
    rw [a1]
    simp only [List.length_nil, Nat.zero_add, List.nil_append] at a3 ⊢
    exact ⟨_, _, rfl, F6, fun k all pre h => a4 k all pre (fun e => by cases e) h, by omega, .inr ⟨H.next, _, _, q, rfl, Nat.le_refl _, by omega, a3⟩⟩

def NoX : Nat → Prop := fun _ => False

theorem does_ok (F : Fine H) (B : Both H kh km L used limit NoX) (hlim : L.length + 1 < 2 ^ 40) (hs : Short L) (hc : Caps L) {o : OpA} (ho : o.Ok E) (hw : o.words.length < 2 ^ 40) :
    FnX Try.prog E w0 24 [.ptr (.new kh) 0, .ptr (.new km) 0, .agg o.cells] H fun v H' => v = .bool true ∧ Both H' kh km (stepS L used limit o).2.1 (stepS L used limit o).2.2 limit NoX := by
  refine V24_ok ?_
  unfold V24
  obtain ⟨n1, n2, n3, F0⟩ := F.newCells o.cells
  have B0 : Both (newCells H o.cells) kh km L used limit (fun k => H.next ≤ k ∧ k < (newCells H o.cells).next) := B.news F n2 (by omega)
  have hX : ∀ k, (H.next ≤ k ∧ k < (newCells H o.cells).next) → k < (newCells H o.cells).next := fun k h => h.2
  have ld : ∀ {H' : AHeap}, H'.get H.next = some (.cells o.cells true []) → ∀ j, loadCell E H' (.new H.next) j = o.cells[j]? := fun h j => loadCell_new E h j
  have lds : ∀ {H' : AHeap}, H'.get H.next = some (.cells o.cells true []) → loadCell E H' (.new H.next) 0 = some (.int .i64 o.kind) ∧ loadCell E H' (.new H.next) 1 = some (.str o.text) ∧ loadCell E H' (.new H.next) 2 = some (.int .i64 o.n) ∧ loadCell E H' (.new H.next) 3 = some (.int .i64 o.m) ∧
    loadCell E H' (.new H.next) 4 = some o.wv ∧ loadCell E H' (.new H.next) 5 = some (.int .u64 o.ref) ∧ loadCell E H' (.new H.next) 6 = some (.int .i64 o.i) ∧ loadCell E H' (.new H.next) 7 = some (.int .u64 o.word) :=
    fun h => ⟨ld h 0, ld h 1, ld h 2, ld h 3, ld h 4, ld h 5, ld h 6, ld h 7⟩
  obtain ⟨d0, d1, d2, d3, d4, d5, d6, d7⟩ := lds n1
  have hcl : (AV.agg o.cells).cells = o.cells := rfl
  have box : ∀ {H1 : AHeap}, (∀ k all pre, (H.next ≤ k ∧ k < (newCells H o.cells).next) → (newCells H o.cells).get k = some (.cells all true pre) → H1.get k = some (.cells all true pre)) → H1.get H.next = some (.cells o.cells true []) := fun h => h _ _ _ ⟨Nat.le_refl _, by omega⟩ n1
  have none : ∀ {H2 : AHeap} {L' : List Th} {u' : Int} {Y : Nat → Prop}, Both H2 kh km L' u' limit Y → Both H2 kh km L' u' limit NoX := fun b => b.less fun k hk => hk.elim
  simp only [wW, hcl, fa_43_0, fa_43_1, fa_43_2, fa_43_3, fa_43_4, fa_43_5, fa_43_6, fa_43_7, oS, ld_3, ld_9, ld_22, ld_23, ld_2, Nat.zero_add, Nat.add_zero, d0, d1, d2, d3, d4, d5, d6, d7, eqv_3, condW_bool, beq_iff_eq, beq_eq_false_iff_ne, ne_eq, true_and, and_true]
  unfold stepS
  refine ⟨fun h => ?_, fun h0 => ?_⟩
  · rw [if_pos h]
    refine two_calls F0 B0 hX (fun R => const_ok F0 R hlim) (fun F1 M => const_m F1 M hlim) ?_
    rintro v1 H1 rfl F1 x1 K
    obtain ⟨d0, d1, d2, d3, d4, d5, d6, d7⟩ := lds (box x1)
    simp only [d1, oS, true_and]
    refine K ?_
    rintro v2 H2 rfl F2 x2 B2 n2
    simp only [oS, eqv_23, beq_self_eq_true, true_and]
    exact none B2
  rw [if_neg h0]
  refine ⟨fun h => ?_, fun h1 => ?_⟩
  · rw [if_pos h]
    by_cases hl : 65536 < o.text.length
    · rw [if_pos hl]
      refine two_calls F0 B0 hX (fun R => (text_ok F0 R hlim).mono fun v H' hm => by rw [if_pos hl] at hm; exact hm) (fun F1 M => (text_m F1 M hlim (s := o.text)).mono fun v H' hm => by rw [if_pos hl] at hm; exact hm) ?_
      rintro v1 H1 rfl F1 x1 K
      obtain ⟨d0, d1, d2, d3, d4, d5, d6, d7⟩ := lds (box x1)
      simp only [d1, ex0, ex1, oS, true_and]
      refine K ?_
      rintro v2 H2 rfl F2 x2 B2 n2
      simp only [ex0, ex1, oS, eqv_23, eqv_3, beq_self_eq_true, wB, btt, vT, pB, if_true, true_and]
      exact none B2
    · rw [if_neg hl]
      refine two_calls F0 B0 hX (fun R => (text_ok F0 R hlim).mono fun v H' hm => by rw [if_neg hl] at hm; exact makesP_steps hm) (fun F1 M => (text_m F1 M hlim (s := o.text)).mono fun v H' hm => by rw [if_neg hl] at hm; exact makesM_steps hm) ?_
      rintro v1 H1 rfl F1 x1 K
      obtain ⟨d0, d1, d2, d3, d4, d5, d6, d7⟩ := lds (box x1)
      simp only [d1, ex0, ex1, oS, true_and]
      refine K ?_
      rintro v2 H2 rfl F2 x2 B2 n2
      simp only [ex0, ex1, oS, eqv_23, eqv_3, beq_self_eq_true, wB, btt, vT, pB, if_true, true_and]
      exact none B2
  rw [if_neg h1]
  refine ⟨fun h => ?_, fun h2 => ?_⟩
  · rw [if_pos h]
    obtain ⟨r, H6, e6, F6, s6, n6, hr⟩ := copy_ok (E := E) F0 ho.words hw
    have B6 := B.news F (fun k all pre h => s6 k all pre (n2 k all pre h)) (show H.next ≤ H6.next by omega)
    obtain ⟨d0, d1, d2, d3, d4, d5, d6, d7⟩ := lds (s6 _ _ _ n1)
    have rl : ∀ H', lenV Try.prog H' 22 r = some (.int .i64 o.words.length) := by
      intro H'
      rcases hr with ⟨rfl, e⟩ | ⟨k, cap, ex, pre, rfl, _⟩
      · rw [e]; simp
      · simp
    have rf : lenOfA r = some o.words.length ∧ firstA E H6 1 o.words.length r = some (wcs o.words) := by
      rcases hr with ⟨rfl, e⟩ | ⟨k, cap, ex, pre, rfl, _, _, g⟩
      · rw [e]; exact ⟨by trivial, by trivial⟩
      · refine ⟨rfl, ?_⟩
        unfold firstA
        simp only [Nat.mul_one, rangeOr, loadRange_new E g]
        split
        · rename_i hz; rw [List.length_eq_zero_iff.1 hz]; rfl
        · rw [if_pos (by rw [wcs_length]; omega), List.drop_zero, ← wcs_length o.words, List.take_length]
    simp only [e6, o2S, d2, oS]
    refine two_calls F6 B6 (fun k hk => hk.2) (fun R => (record_gen F6 R hlim rl rf ho.short).mono fun v H' hm => makesP_steps hm) (fun F1 M => (record_m F1 M hlim (t := o.n) ho.words.len (ho.words.first _) hw).mono fun v H' hm => makesM_steps hm) ?_
    rintro v1 H1 rfl F1 x1 K
    have b1 : H1.get H.next = some (.cells o.cells true []) := x1 _ _ _ ⟨Nat.le_refl _, by omega⟩ (s6 _ _ _ n1)
    obtain ⟨d0, d1, d2, d3, d4, d5, d6, d7⟩ := lds b1
    simp only [d2, d4, ex0, ex1, oS, true_and]
    refine K ?_
    rintro v2 H2 rfl F2 x2 B2 n2'
    simp only [ex0, ex1, oS]
    generalize makeS L used limit (.flat o.n o.words) (1 + o.words.length) = st at B2 ⊢
    refine loop24_0 (I := fun n t5 t11 t12 t13 t14 t15 t16 H' => t5 = .ptr (.new H.next) 0 ∧ r = t11 ∧ t12 = .int .u64 st.1.1 ∧ t13 = .int .i64 st.1.2 ∧ t14 = .int .u64 st.1.1 ∧ t15 = .int .i64 st.1.2 ∧ ∃ i : Nat, t16 = .int .i64 (i : Int) ∧ i + n = o.words.length ∧ Fine H' ∧
        H'.get H.next = some (.cells o.cells true []) ∧ Both H' kh km st.2.1 st.2.2 limit (fun k => H.next ≤ k ∧ k < H6.next) ∧
        (o.words = [] ∨ ∃ k cap ex pre, r = .slc (.new k) 0 o.words.length cap ex 1 ∧ H.next < k ∧ k < H6.next ∧ H'.get k = some (.cells (List.replicate i (.int .u64 77) ++ (wcs o.words).drop i) true pre))) ?_ (n := o.words.length)
      ⟨rfl, rfl, rfl, rfl, rfl, rfl, 0, rfl, by omega, F2, x2 _ _ _ ⟨Nat.le_refl _, by omega⟩ (s6 _ _ _ n1), B2, ?_⟩
    rotate_left
    · rcases hr with ⟨rfl, e⟩ | ⟨k, cap, ex, pre, rfl, k1, k2, g⟩
      · exact .inl e
      · exact .inr ⟨k, cap, ex, pre, rfl, by omega, k2, by simpa using x2 _ _ _ ⟨by omega, k2⟩ g⟩
    rintro n _ _ _ _ _ _ _ H3 ⟨rfl, rfl, rfl, rfl, rfl, rfl, i, rfl, hi, F3, b3, B3, hr3⟩
    intros
    unfold B24_0
    rw [rl, oS, bin_lss, oS, condW_bool]
    obtain ⟨d0, d1, d2, d3, d4, d5, d6, d7⟩ := lds b3
    refine ⟨fun hlt => ?_, fun hge => ?_⟩
    · have hlt : i < o.words.length := by have := of_decide_eq_true hlt; omega
      rcases hr3 with e | ⟨k, cap, ex, pre, er, k1, k2, g⟩
      · rw [e] at hlt; simp at hlt
      obtain ⟨p, e1, e2⟩ := ho.words.at hlt H3 .i64
      have e2 : loadV Try.prog E H3 23 p = some (.int .u64 o.words[i]) := by rw [e2, List.getD_eq_getElem?_getD, List.getElem?_eq_getElem hlt]; rfl
      have ix : indexAtA Try.prog 22 r (.int .i64 (i : Int)) = some (.ptr (.new k) i) := by
        rw [er, ix_22, if_pos ⟨by omega, by omega⟩]; simp
      have lw : loadCell E H3 (.new k) i = some (.int .u64 o.words[i]) := by
        rw [loadCell_new E g, List.getElem?_append_right (by simp), List.length_replicate, Nat.sub_self, List.getElem?_drop]
        simp [wcs, hlt]
      obtain ⟨H4, p1, p2, p3, p4, F4⟩ := F3.store g (n := i) (x := .int .u64 77) (by simp [wcs_length]; omega) rfl
      have lw : loadV Try.prog E H3 23 (.ptr (.new k) i) = some (.int .u64 o.words[i]) := by rw [ld_23]; exact lw
      simp only [ix, oS, lw, fa_43_4, Nat.zero_add, ld_22, d4, e1, e2, true_and, nev_23, bne_self_eq_false, cF]
      refine store1W sz_23 rfl p1 ?_
      rw [bin_add, oS, wrap_i64 (by omega) (by omega)]
      refine ⟨n - 1, by omega, rfl, rfl, rfl, rfl, rfl, rfl, rfl, i + 1, by simp, by omega, F4, p3 _ _ _ (by omega) b3, ?_, .inr ⟨k, cap, ex, [], er, k1, k2, ?_⟩⟩
      · refine B3.frame (fun j all pr hj hg => p3 j all pr (fun e => hj (by subst e; exact ⟨by omega, k2⟩)) hg) (by omega)
      · rw [p2]
        congr 2
        rw [List.set_append_right _ _ (by simp), List.length_replicate, Nat.sub_self, List.replicate_succ', List.append_assoc, List.drop_eq_getElem_cons (by rw [wcs_length]; exact hlt), List.set_cons_zero]
        rfl
    · simp only [oS, eqv_23, eqv_3, beq_self_eq_true, wB, btt, vT, pB, if_true, true_and]
      exact none B3
  rw [if_neg h2]
  refine ⟨fun h => ?_, fun h3 => ?_⟩
  · rw [if_pos h]
    by_cases hl : o.m < 0 ∨ o.m > 65536
    · rw [if_pos hl]
      refine two_calls F0 B0 hX (fun R => (fill_ok F0 R hlim).mono fun v H' hm => by rw [if_pos hl] at hm; exact hm) (fun F1 M => (fill_m F1 M hlim (t := o.n) (n := o.m) (w := o.word)).mono fun v H' hm => by rw [if_pos hl] at hm; exact hm) ?_
      rintro v1 H1 rfl F1 x1 K
      obtain ⟨d0, d1, d2, d3, d4, d5, d6, d7⟩ := lds (box x1)
      simp only [d2, d3, d7, ex0, ex1, oS, true_and]
      refine K ?_
      rintro v2 H2 rfl F2 x2 B2 n2
      simp only [ex0, ex1, oS, eqv_23, eqv_3, beq_self_eq_true, wB, btt, vT, pB, if_true, true_and]
      exact none B2
    · rw [if_neg hl]
      refine two_calls F0 B0 hX (fun R => (fill_ok F0 R hlim).mono fun v H' hm => by rw [if_neg hl] at hm; exact makesP_steps hm) (fun F1 M => (fill_m F1 M hlim (t := o.n) (n := o.m) (w := o.word)).mono fun v H' hm => by rw [if_neg hl] at hm; exact makesM_steps hm) ?_
      rintro v1 H1 rfl F1 x1 K
      obtain ⟨d0, d1, d2, d3, d4, d5, d6, d7⟩ := lds (box x1)
      simp only [d2, d3, d7, ex0, ex1, oS, true_and]
      refine K ?_
      rintro v2 H2 rfl F2 x2 B2 n2
      simp only [ex0, ex1, oS, eqv_23, eqv_3, beq_self_eq_true, wB, btt, vT, pB, if_true, true_and]
      exact none B2
  rw [if_neg h3]
  refine ⟨fun h => ?_, fun h4 => ?_⟩
  · rw [if_pos h]
    refine two_calls F0 B0 hX (fun R => (empty_ok F0 R hlim).mono fun v H' hm => makesP_steps hm) (fun F1 M => (empty_m F1 M hlim (t := o.n)).mono fun v H' hm => makesM_steps hm) ?_
    rintro v1 H1 rfl F1 x1 K
    obtain ⟨d0, d1, d2, d3, d4, d5, d6, d7⟩ := lds (box x1)
    simp only [d2, ex0, ex1, oS, true_and]
    refine K ?_
    rintro v2 H2 rfl F2 x2 B2 n2
    simp only [ex0, ex1, oS, eqv_23, eqv_3, beq_self_eq_true, wB, btt, vT, pB, if_true, true_and]
    exact none B2
  rw [if_neg h4]
  refine ⟨fun h => ?_, fun h5 => ?_⟩
  · rw [if_pos h]
    refine two_calls F0 B0 hX (P1 := fun v => v = .tup [.int .u64 (getW L o.ref o.i).1, .int .i64 (getW L o.ref o.i).2]) (L' := L) (used' := used) (fun R => (get_ok R hs ho.ref.1 ho.ref.2).mono fun v H' hm => ⟨hm.2, by rw [hm.1]; exact Now.refl R⟩) (P2 := fun v => v = .tup [.int .u64 (getW L o.ref o.i).1, .int .i64 (getW L o.ref o.i).2]) (fun F1 M => (get_m F1 M ho.ref.1 ho.ref.2).use fun v H' hm _ hn => ⟨hm.2, NowM.stays M hm.1 hn⟩) ?_
    rintro v1 H1 rfl F1 x1 K
    obtain ⟨d0, d1, d2, d3, d4, d5, d6, d7⟩ := lds (box x1)
    simp only [d5, d6, ex0, ex1, oS, true_and]
    refine K ?_
    rintro v2 H2 rfl F2 x2 B2 n2
    simp only [ex0, ex1, oS, eqv_23, eqv_3, beq_self_eq_true, wB, btt, vT, pB, if_true, true_and]
    exact none B2
  rw [if_neg h5]
  refine ⟨fun h => ?_, fun h6 => ?_⟩
  · rw [if_pos h]
    refine two_calls F0 B0 hX (P1 := fun v => v = .int .i64 (getW L o.ref o.i).2) (L' := setL L o.ref o.i o.word) (used' := used) (fun {lv tvs own} R => (set_ok F0 R hs ho.ref.1 ho.ref.2).mono fun v H' hm => ⟨hm.1, lv, tvs, own, hm.2.1, fun _ _ => rfl, hm.2.2.1⟩) (fun F1 M => set_m F1 M ho.ref.1 ho.ref.2) ?_
    rintro v1 H1 rfl F1 x1 K
    obtain ⟨d0, d1, d2, d3, d4, d5, d6, d7⟩ := lds (box x1)
    simp only [d5, d6, d7, oS, true_and]
    refine K ?_
    rintro v2 H2 rfl F2 x2 B2 n2
    simp only [oS, eqv_3, beq_self_eq_true, true_and]
    exact none B2
  rw [if_neg h6]
  refine ⟨fun h => ?_, fun h7 => ?_⟩
  · rw [if_pos h]
    refine two_calls F0 B0 hX (fun R => (push_ok F0 R hs ho.ref.1 ho.ref.2)) (fun F1 M => (push_m F1 M hc ho.ref.1 ho.ref.2)) ?_
    rintro v1 H1 rfl F1 x1 K
    obtain ⟨d0, d1, d2, d3, d4, d5, d6, d7⟩ := lds (box x1)
    simp only [d5, d7, oS, true_and]
    refine K ?_
    rintro v2 H2 rfl F2 x2 B2 n2
    simp only [oS, eqv_3, beq_self_eq_true, true_and]
    exact none B2
  rw [if_neg h7]
  refine two_calls F0 B0 hX (fun R => (drop_ok F0 R hs ho.ref.1 ho.ref.2)) (fun F1 M => (drop_m F1 M hs ho.ref.1 ho.ref.2)) ?_
  rintro v1 H1 rfl F1 x1 K
  obtain ⟨d0, d1, d2, d3, d4, d5, d6, d7⟩ := lds (box x1)
  simp only [d5, ex0, ex1, oS, true_and]
  refine K ?_
  rintro v2 H2 rfl F2 x2 B2 n2
  simp only [ex0, ex1, oS, eqv_23, eqv_3, beq_self_eq_true, wB, btt, vT, pB, if_true, true_and]
  exact none B2
end
end Go.Proofs.Ytjbpdmlpjgejcaa.hp
