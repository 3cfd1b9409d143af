/-
  What the functions that make things do.
-/
import Derived.Test.YtjbpdmlpjgejcaaDHq
open Go.Proofs Go Go.Am
namespace Go.Proofs.Ytjbpdmlpjgejcaa.hp
open Go.Proofs.Ytjbpdmlpjgejcaa.vcs
set_option linter.unusedVariables false
set_option linter.unusedSimpArgs false
set_option maxRecDepth 100000

variable {E : Env} {w0 : World}

theorem bs_55 (H : AHeap) (u : TypeId) (x : AV) : buildSliceA Try.prog H 55 1 [(0, .ifc u x)] = some (.slc (.new H.next) 0 1 1 true 1, newCells H [.ifc u x]) := by kernel_rfl
theorem bs_22 (H : AHeap) (k : IntKind) (n : Int) : buildSliceA Try.prog H 22 1 [(0, .int k n)] = some (.slc (.new H.next) 0 1 1 true 1, newCells H [.int k n]) := by kernel_rfl

/-- What is so behind a call, of a heap of the program's. -/
def Now (own : Own) (H H' : AHeap) (kh : Nat) (L : List Th) (used limit : Int) : Prop :=
  ∃ lv tvs own', Rp H' kh lv tvs L used limit own' ∧ OwnExt own own' H ∧ Only own H H'

section
variable {H H' : AHeap} {kh : Nat} {lv : AV} {tvs : List AV} {L : List Th} {used limit : Int} {own own' : Own}

theorem app_ok (F : Fine H) {g : Tag} {sv : AV} {cs : List AV} (h : SlcAt H own g sv cs) {bytes m : Nat} (news : List AV) (hm : news.length = m) (h0 : m ≠ 0) (hsc : news.all scalar = true) (hb : 0 < bytes ∧ (2 * (cs.length + m) + 768) * bytes ≤ 2 ^ 47) :
    ∃ H' q, growA E H 1 bytes sv m news = some (.slc (.new H.next) 0 (cs.length + m) (cs.length + m) false 1, H') ∧ H'.next = H.next + 1 ∧ H'.get H.next = some (.cells (cs ++ news) true q) ∧
      (∀ k all pre, own k ≠ g → H.get k = some (.cells all true pre) → H'.get k = some (.cells all true pre)) ∧ Fine H' := by
  rcases h with ⟨rfl, rfl⟩ | ⟨k, cap, ex, all, pre, rfl, h1, h2, h3, h4⟩
  · obtain ⟨a, b, c, d⟩ := F.newCells news
    refine ⟨_, [], ?_, c, a, fun k all pre _ hk => b k all pre hk, d⟩
    unfold growA
    simp only [List.length_nil, Nat.zero_add] at hb ⊢
    rw [if_pos (by rw [hm, Nat.mul_one]), if_neg h0, if_pos hb]
  · have hl : cs.length ≤ all.length := by
      have := congrArg List.length h2
      rw [List.length_take] at this
      omega
    obtain ⟨H', q, a, b, c, d, e⟩ := F.grow (E := E) (cap := cap) (sz := 1) (ex := ex) h1 hl news hm h0 hsc hb
    rw [h2] at c
    exact ⟨H', q, a, b, c, fun j al pr hj hg => d j al pr (fun e => hj (e ▸ h3)) hg, e⟩

theorem Rp.none_high (R : Rp H kh lv tvs L used limit own) (F : Fine H) {k : Nat} {o : AObj} (h : H.get k = some o) : k < H.next := F.lt h

theorem keep_ok (F : Fine H) (R : Rp H kh lv tvs L used limit own) (hlim : L.length + 1 < 2 ^ 40) {u : TypeId} {x : AV} {th : Th} (hT : ThAt H own L.length (.ifc u x) th) {cost : Int} (hc : 0 ≤ cost) :
    FnX Try.prog E w0 33 [.ptr (.new kh) 0, .ifc u x, .int .i64 cost] H fun v H' =>
      if cost ≤ limit - used then v = .tup [.int .u64 (L.length + 1 : Nat), .int .i64 0] ∧ Now own H H' kh (L ++ [th]) (used + cost) limit
      else v = .tup [.int .u64 0, .int .i64 4] ∧ H' = H := by
  refine V33_ok ?_
  unfold V33
  refine (room_ok R).use ?_
  rintro v H1 ⟨rfl, rfl⟩ _ _
  have hr := R.range
  by_cases hroom : cost ≤ limit - used
  rotate_left
  · simp only [hroom, decide_false, un_not, Bool.not_false, optW_some, condW_true, if_false]
    exact ⟨by trivial, by trivial⟩
  simp only [hroom, decide_true, un_not, Bool.not_true, optW_some, condW_false, if_true, nilV_ptr, fa_57_1, fa_57_0, Nat.zero_add]
  have l1 : loadCell E H1 (.new kh) 1 = some (.int .i64 used) := by rw [loadCell_new E R.head]; rfl
  simp only [ld_3, l1, optW_some, bin_add]
  rw [wrap_i64 (by omega) (by omega)]
  obtain ⟨H2, g1, g2, g3, g4, F2⟩ := F.store R.head (n := 1) (x := .int .i64 (used + cost)) (by simp) rfl
  refine store1W sz_3 rfl g1 ?_
  simp only [List.set_cons_succ, List.set_cons_zero] at g2
  have hh : ∀ k, own k ≠ .head → k ≠ kh := fun k h e => h (e ▸ R.hown)
  have l2 : loadCell E H2 (.new kh) 0 = some lv := by rw [loadCell_new E g2]; rfl
  simp only [ld_55, l2, optW_some, bs_55, opt2W_some, app_55_55]
  obtain ⟨n1, n2, n3, F3⟩ := F2.newCells [AV.ifc u x]
  have hl3 : SlcAt (newCells H2 [AV.ifc u x]) own .list lv tvs := R.list.keep fun k all pre e h => ⟨n2 _ _ _ (g3 _ _ _ (hh k (by rw [e]; exact fun e => by cases e)) h), e⟩
  have hfirst : firstA E (newCells H2 [AV.ifc u x]) 1 1 (.slc (.new H2.next) 0 1 1 true 1) = some [AV.ifc u x] := by
    simp only [firstA]
    rw [rangeOr_new E n1 _ _ (by simp)]
    rfl
  simp only [lenOfA, Option.bind_some, hfirst]
  obtain ⟨H4, q, a1, a2, a3, a4, F4⟩ := app_ok (E := E) F3 hl3 (bytes := 16) (m := 1) [AV.ifc u x] rfl (by omega) rfl ⟨by omega, by
    have := R.len; have := R.small; omega⟩
  rw [a1, opt2W_some]
  have hk4 : H4.get kh = some (.cells [lv, .int .i64 (used + cost), .int .i64 limit, .bool true] true []) := a4 _ _ _ (by rw [R.hown]; exact fun e => by cases e) (n2 _ _ _ g2)
  obtain ⟨H5, s1, s2, s3, s4, F5⟩ := F4.store hk4 (n := 0) (x := .slc (.new (newCells H2 [AV.ifc u x]).next) 0 (tvs.length + 1) (tvs.length + 1) false 1) (by simp) rfl
  refine store1W sz_55 rfl s1 ?_
  simp only [List.set_cons_zero] at s2
  have l5 : loadCell E H5 (.new kh) 0 = some (.slc (.new (newCells H2 [AV.ifc u x]).next) 0 (tvs.length + 1) (tvs.length + 1) false 1) := by rw [loadCell_new E s2]; rfl
  simp only [l5, optW_some, len_55, cv_3_23]
  have hn2 : (newCells H2 [AV.ifc u x]).next = H1.next + 1 := by rw [n3, g4]
  rw [hn2] at s2 a3 a2
  have hn5 : H5.next = H1.next + 2 := by rw [s4, a2]
  have hlen := R.len
  have hsm := R.small
  rw [wrap_u64 (by omega) (by omega)]
  have stay : ∀ k all pre, own k ≠ .head → own k ≠ .list → H1.get k = some (.cells all true pre) → H5.get k = some (.cells all true pre) := by
    intro k all pre h1 h2 h
    exact s3 _ _ _ (hh k h1) (a4 _ _ _ h2 (n2 _ _ _ (g3 _ _ _ (hh k h1) h)))
  refine ⟨by rw [hlen], _, tvs ++ [AV.ifc u x], fun k => if k = H1.next + 1 then .list else own k, ⟨s2, ?_, ?_, ?_, ?_, ?_, ?_, ?_⟩, ?_, ?_⟩
  · have := F.lt R.head
    refine (if_neg (by omega)).trans R.hown
  · refine .inr ⟨H1.next + 1, tvs.length + 1, false, _, q, ?_, s3 _ _ _ ?_ a3, ?_, ?_, ?_⟩
    · simp
    · have := F.lt R.head
      omega
    · exact List.take_length
    · exact if_pos rfl
    · simp
  · simp [hlen]
  · simpa using hlim
  · intro i v t h1 h2
    have hlt : ∀ k all pre, own k = .th i ∨ own k = .ws i → H1.get k = some (.cells all true pre) → H5.get k = some (.cells all true pre) ∧ (fun k => if k = H1.next + 1 then Tag.list else own k) k = own k := by
      intro k all pre e h
      have := F.lt h
      refine ⟨stay k all pre ?_ ?_ h, if_neg (by omega)⟩
      · rcases e with e | e <;> rw [e] <;> exact fun e => by cases e
      · rcases e with e | e <;> rw [e] <;> exact fun e => by cases e
    by_cases hi : i < tvs.length
    · rw [List.getElem?_append_left hi] at h1
      rw [List.getElem?_append_left (by omega)] at h2
      exact (R.things i v t h1 h2).keep hlt
    · have hi2 : i = tvs.length := by
        have := (List.getElem?_eq_some_iff.1 h1).1
        simp at this
        omega
      subst hi2
      rw [List.getElem?_append_right (by omega)] at h1
      rw [List.getElem?_append_right (by omega)] at h2
      simp [hlen] at h1 h2
      subst h1 h2
      rw [hlen] at hlt ⊢
      exact hT.keep hlt
  · intro k hk
    rw [hn5] at hk
    exact (if_neg (by omega)).trans (R.high k (by omega))
  · exact ⟨by omega, by omega, hr.2.2⟩
  · intro k hk
    exact if_neg (by omega)
  · intro k all pre hk h
    exact stay k all pre (by rw [hk]; exact fun e => by cases e) (by rw [hk]; exact fun e => by cases e) h
end
end Go.Proofs.Ytjbpdmlpjgejcaa.hp
