/-
  Const, Text, Fill, Type; and a script's calls.
-/
import Derived.Test.YtjbpdmlpjgejcaaDHw
open Go.Proofs Go Go.Am
namespace Go.Proofs.Ytjbpdmlpjgejcaa.hp
open Go.Proofs.Ytjbpdmlpjgejcaa.vcs
set_option linter.unusedVariables false
set_option linter.unusedSimpArgs false
set_option maxRecDepth 100000

variable {E : Env} {w0 : World}
section
variable {H H' : AHeap} {kh : Nat} {lv : AV} {tvs : List AV} {L : List Th} {used limit : Int} {own own' : Own}

theorem keepText_ok (F : Fine H) (R : Rp H kh lv tvs L used limit own) (hlim : L.length + 1 < 2 ^ 40) {s : List UInt8} {cost : Int} (hc : 0 ≤ cost) :
    FnX Try.prog E w0 33 [.ptr (.new kh) 0, .ifc 82 (.str s), .int .i64 cost] H (Makes own H kh L used limit (.text s) cost) := by
  refine (keep_ok F R hlim (th := .text s) rfl hc).mono fun v H' h => ?_
  unfold Makes
  split
  · rename_i hroom; rw [if_pos hroom] at h; exact h
  · rename_i hroom; rw [if_neg hroom] at h; exact ⟨h.1, by rw [h.2]; exact Now.refl R⟩

theorem const_ok (F : Fine H) (R : Rp H kh lv tvs L used limit own) (hlim : L.length + 1 < 2 ^ 40) {s : List UInt8} :
    FnX Try.prog E w0 28 [.ptr (.new kh) 0, .str s] H fun v H' => v = .int .u64 (L.length + 1 : Nat) ∧ Now own H H' kh (L ++ [.text s]) used limit := by
  refine V28_ok ?_
  unfold V28
  have hr := R.range
  have l3 : loadCell E H (.new kh) 3 = some (.bool true) := by rw [loadCell_new E R.head]; rfl
  simp only [eqvn_25, optW_some, wantsA_bool, beq_self_eq_true, valG_true, nilV_ptr, fa_57_3, ld_4, Nat.zero_add, l3, un_not, Bool.not_true, pickV_bool, Bool.false_eq_true, if_false, condW_false, ifc_82]
  refine (keepText_ok F R hlim (by omega)).use ?_
  intro v H' hm _ _
  unfold Makes at hm
  rw [if_pos (by omega)] at hm
  obtain ⟨rfl, h⟩ := hm
  simp only [extractV_tup, List.getElem?_cons_zero, List.getElem?_cons_succ, optW_some]
  rw [Int.add_zero] at h
  exact ⟨by trivial, h⟩

def textCost (s : List UInt8) : Int := 1 + ((s.length : Int) + 7) / 8
theorem text_ok (F : Fine H) (R : Rp H kh lv tvs L used limit own) (hlim : L.length + 1 < 2 ^ 40) {s : List UInt8} :
    FnX Try.prog E w0 29 [.ptr (.new kh) 0, .str s] H fun v H' => if 65536 < s.length then v = .tup [.int .u64 0, .int .i64 3] ∧ Now own H H' kh L used limit else Makes own H kh L used limit (.text s) (textCost s) v H' := by
  refine V29_ok ?_
  unfold V29
  rw [len_9, optW_some, bin_gtr, optW_some, condW_bool]
  constructor
  · intro h
    have h : (s.length : Int) > 65536 := of_decide_eq_true h
    rw [if_pos (by omega)]
    exact ⟨rfl, Now.refl R⟩
  · intro h
    have h : ¬ (s.length : Int) > 65536 := of_decide_eq_false h
    simp only [if_neg (show ¬ 65536 < s.length by omega)]
    have hq : ((s.length : Int) + 7).tdiv 8 = ((s.length : Int) + 7) / 8 := Int.tdiv_eq_ediv_of_nonneg (by omega)
    rw [ifc_82, optW_some, optW_some, bin_add, optW_some, wrap_i64 (by omega) (by omega), bin_quo, if_neg (by omega), optW_some, hq, wrap_i64 (by omega) (by omega), bin_add, optW_some, wrap_i64 (by omega) (by omega)]
    refine (keepText_ok F R hlim (by omega)).use ?_
    intro v H' hm _ _
    have hm' := hm
    unfold Makes at hm
    split at hm
    · obtain ⟨rfl, _⟩ := hm
      simp only [extractV_tup, List.getElem?_cons_zero, List.getElem?_cons_succ, optW_some]
      exact hm'
    · obtain ⟨rfl, _⟩ := hm
      simp only [extractV_tup, List.getElem?_cons_zero, List.getElem?_cons_succ, optW_some]
      exact hm'

theorem make_22 (H : AHeap) (n : Int) : makeSliceA Try.prog H 22 (.int .i64 n) (.int .i64 n) = if IntKind.i64.wrap n = n ∧ IntKind.i64.wrap n = n ∧ 0 ≤ n ∧ n ≤ n ∧ ((8 : Nat) : Int) * n ≤ 2 ^ 47 ∧ 1 = 1 then
    some (.slc (.new H.next) 0 n.toNat n.toNat true 1, newCells H (rep [.int .u64 0] n.toNat)) else none := by kernel_rfl
theorem rep_one (z : AV) : ∀ n, rep [z] n = List.replicate n z
  | 0 => rfl
  | n + 1 => by rw [rep, rep_one z n]; rfl

theorem fill_ok (F : Fine H) (R : Rp H kh lv tvs L used limit own) (hlim : L.length + 1 < 2 ^ 40) {t n w : Int} :
    FnX Try.prog E w0 30 [.ptr (.new kh) 0, .int .i64 t, .int .i64 n, .int .u64 w] H fun v H' => if n < 0 ∨ n > 65536 then v = .tup [.int .u64 0, .int .i64 3] ∧ Now own H H' kh L used limit
      else Makes own H kh L used limit (.flat t (List.replicate n.toNat w)) (1 + n) v H' := by
  refine V30_ok ?_
  unfold V30
  rw [bin_lss, optW_some]
  by_cases h0 : n < 0
  · simp only [h0, decide_true, wantsA_bool, show (true == false) = false from rfl, valG_false, optW_some, pickV_bool, if_true, condW_true, true_or]
    exact ⟨by trivial, Now.refl R⟩
  simp only [h0, decide_false, wantsA_bool, beq_self_eq_true, valG_true, optW_some, bin_gtr, pickV_bool, Bool.false_eq_true, if_false, false_or]
  by_cases h1 : n > 65536
  · simp only [h1, decide_true, condW_true, if_true]
    exact ⟨by trivial, Now.refl R⟩
  simp only [h1, decide_false, condW_false, if_false, bin_add, optW_some]
  rw [wrap_i64 (by omega) (by omega)]
  refine (room_ok R).use ?_
  rintro v H1 ⟨rfl, rfl⟩ _ _
  by_cases hroom : 1 + n ≤ limit - used
  rotate_left
  · simp only [hroom, decide_false, un_not, Bool.not_false, optW_some, condW_true, Makes, if_false]
    exact ⟨by trivial, Now.refl R⟩
  simp only [hroom, decide_true, un_not, Bool.not_true, optW_some, condW_false]
  obtain ⟨m, rfl⟩ : ∃ m : Nat, n = (m : Int) := ⟨n.toNat, by omega⟩
  rw [make_22, if_pos ⟨wrap_i64 (by omega) (by omega), wrap_i64 (by omega) (by omega), by omega, by omega, by omega, rfl⟩, opt2W_some, rep_one]
  simp only [Int.toNat_natCast, len_22, optW_some]
  obtain ⟨n1, n2, n3, F2⟩ := F.newCells (List.replicate m (AV.int .u64 0))
  refine loop30_0 (I := fun j t0 t1 t2 t3 t10 t28 t29 H' => t0 = .ptr (.new kh) 0 ∧ t1 = .int .i64 t ∧ t2 = .int .i64 (m : Int) ∧ t3 = .int .u64 w ∧ t10 = .slc (.new H1.next) 0 m m true 1 ∧ t28 = .int .i64 (m : Int) ∧
      ∃ k : Nat, t29 = .int .i64 (k : Int) ∧ k + j = m ∧ Fine H' ∧ Stays H1 H' ∧ H'.next = H1.next + 1 ∧ ∃ pre, H'.get H1.next = some (.cells (List.replicate k (AV.int .u64 w) ++ List.replicate j (AV.int .u64 0)) true pre)) ?_ (n := m)
    ⟨rfl, rfl, rfl, rfl, rfl, rfl, 0, rfl, by omega, F2, n2, n3, [], by simpa using n1⟩
  rintro j _ _ _ _ _ _ _ H3 ⟨rfl, rfl, rfl, rfl, rfl, rfl, k, rfl, hk, F3, hs3, hn3, pre, hg3⟩
  intros
  unfold B30_0
  rw [bin_lss, optW_some, condW_bool]
  constructor
  · intro hlt
    have hlt : k < m := by have := of_decide_eq_true hlt; omega
    rw [ix_22, if_pos ⟨by omega, by omega⟩, optW_some]
    simp only [Nat.zero_add, Int.toNat_natCast, Nat.mul_one]
    obtain ⟨H4, p1, p2, p3, p4, F4⟩ := F3.store hg3 (n := k) (x := .int .u64 w) (by simp; omega) rfl
    refine store1W sz_23 rfl p1 ?_
    rw [bin_add, optW_some, wrap_i64 (by omega) (by omega)]
    refine ⟨j - 1, by omega, rfl, rfl, rfl, rfl, rfl, rfl, rfl, k + 1, by simp, by omega, F4, ?_, by omega, [], ?_⟩
    · intro b all pr hb
      have := F.lt hb
      exact p3 b all pr (by omega) (hs3 b all pr hb)
    · rw [p2]
      congr 2
      obtain ⟨j', rfl⟩ : ∃ j', j = j' + 1 := ⟨j - 1, by omega⟩
      rw [List.set_append_right _ _ (by simp), List.length_replicate, Nat.sub_self, List.replicate_succ, List.set_cons_zero, Nat.add_sub_cancel, List.replicate_succ', List.append_assoc]
      rfl
  · intro hge
    have hge : ¬ (k : Int) < m := of_decide_eq_false hge
    have hj : j = 0 := by omega
    have hkm : k = m := by omega
    subst hj hkm
    rw [build_68s, optW_some, build_70, optW_some, withW_eq, ifc_66, optW_some, bin_add, optW_some, wrap_i64 (by omega) (by omega)]
    obtain ⟨q1, q2, q3, F5⟩ := F3.newCells [.int .i64 t, .slc (.new H1.next) 0 k k true 1]
    have hkh := F.lt R.head
    have he : OwnExt own (fun b => if b = H1.next then .ws L.length else if b = H3.next then .th L.length else own b) H1 := fun b hb => (if_neg (by omega)).trans (if_neg (by omega))
    have hs5 : Stays H1 (newCells H3 [.int .i64 t, .slc (.new H1.next) 0 k k true 1]) := fun b all pr hb => q2 _ _ _ (hs3 _ _ _ hb)
    have R5 : Rp (newCells H3 [.int .i64 t, .slc (.new H1.next) 0 k k true 1]) kh lv tvs L used limit (fun b => if b = H1.next then .ws L.length else if b = H3.next then .th L.length else own b) :=
      R.more F hs5 (by omega) he (fun b hb => (if_neg (by omega)).trans ((if_neg (by omega)).trans (R.high b (by omega))))
    have hT : ThAt (newCells H3 [.int .i64 t, .slc (.new H1.next) 0 k k true 1]) (fun b => if b = H1.next then .ws L.length else if b = H3.next then .th L.length else own b) L.length (.ifc 66 (.ptr (.new H3.next) 0)) (.flat t (List.replicate k w)) := by
      refine ⟨H3.next, _, rfl, q1, (if_neg (by omega)).trans (if_pos rfl), .inr ⟨H1.next, k, true, _, pre, ?_, q2 _ _ _ hg3, ?_, if_pos rfl, ?_⟩⟩
      · rw [wcs_length, List.length_replicate]
      · rw [wcs_length, List.length_replicate]
        simp [wcs]
      · rw [wcs_length, List.length_replicate]; exact Nat.le_refl _
    refine (keep_ok F5 R5 hlim hT (by omega)).use ?_
    intro r H6 hr _ _
    rw [if_pos hroom] at hr
    obtain ⟨rfl, hnow⟩ := hr
    simp only [Makes, if_pos hroom, extractV_tup, List.getElem?_cons_zero, List.getElem?_cons_succ, optW_some, Int.toNat_natCast]
    exact ⟨by trivial, hnow.from F hs5 (by omega) he⟩

/-- What Type tells. -/
def typeR (L : List Th) (ref : Int) : Int := match thAt L ref with
  | some th => th.type
  | none => 0
theorem inv_82 (H : AHeap) (s : List UInt8) : invokeA Try.prog E H (.ifc 82 (.str s)) "trammel/heap.kind" [] = some (.call 69 [.str s] H) := by kernel_rfl
theorem inv_66 (H : AHeap) (o : Am.Id) (i : Nat) : invokeA Try.prog E H (.ifc 66 (.ptr o i)) "trammel/heap.kind" [] = some (.call 68 [.ptr o (i + 0)] H) := by kernel_rfl
theorem inv_76 (H : AHeap) (o : Am.Id) (i : Nat) : invokeA Try.prog E H (.ifc 76 (.ptr o i)) "trammel/heap.kind" [] = some (.call 68 [.ptr o (i + 0)] H) := by kernel_rfl
theorem type_ok (R : Rp H kh lv tvs L used limit own) {ref : Int} (h0 : 0 ≤ ref) (h1 : ref < 2 ^ 64) : FnX Try.prog E w0 22 [.ptr (.new kh) 0, .int .u64 ref] H fun v H' => H' = H ∧ v = .int .i64 (typeR L ref) := by
  refine V22_ok ?_
  unfold V22
  refine (at_ok R h0 h1).use ?_
  rintro v H' ⟨rfl, rfl⟩ _ _
  unfold typeR
  have kind : ∀ {k : Nat} {t : Int} {sv : AV}, H'.get k = some (.cells [.int .i64 t, sv] true []) → FnX Try.prog E w0 68 [.ptr (.new k) 0] H' fun v H'' => H'' = H' ∧ v = .int .i64 t := by
    intro k t sv hk
    refine V68_ok ?_
    unfold V68
    have l0 : loadCell E H' (.new k) 0 = some (.int .i64 t) := by rw [loadCell_new E hk]; rfl
    simp only [nilV_ptr, optW_some, fa_68_0, ld_3, Nat.zero_add, l0]
    exact ⟨by trivial, by trivial⟩
  rcases R.at ref with ⟨e1, e2⟩ | ⟨th, e1, e0, e2⟩
  · rw [e1, e2]
    simp only [nevnn_80, optW_some, condW_false]
    exact ⟨by trivial, by trivial⟩
  · rw [e1]
    cases th with
    | text s =>
      simp only [ThAt] at e2
      rw [e2]
      simp only [nevn_80, optW_some, condW_true, inv_82, resF_call]
      refine V69_ok ?_
      unfold V69
      exact ⟨by trivial, by trivial⟩
    | flat t ws =>
      obtain ⟨k, sv, e3, e4, _⟩ := e2
      rw [e3]
      simp only [nevn_80, optW_some, condW_true, inv_66, resF_call]
      exact (kind e4).mono fun v H'' h => h
    | grow t ws =>
      obtain ⟨k, sv, e3, e4, _⟩ := e2
      rw [e3]
      simp only [nevn_80, optW_some, condW_true, inv_76, resF_call]
      exact (kind e4).mono fun v H'' h => h
end

/-- A call of a script. -/
structure OpA where
  kind : Int
  text : List UInt8
  n : Int
  m : Int
  wv : AV
  words : List Int
  ref : Int
  i : Int
  word : Int

def OpA.cells (o : OpA) : List AV := [.int .i64 o.kind, .str o.text, .int .i64 o.n, .int .i64 o.m, o.wv, .int .u64 o.ref, .int .i64 o.i, .int .u64 o.word]
structure OpA.Ok (E : Env) (o : OpA) : Prop where
  words : Rd E o.wv o.words
  ref : 0 ≤ o.ref ∧ o.ref < 2 ^ 64
  short : o.words.length < 2 ^ 62
  tx : o.text.length < 2 ^ 62

def makeS (L : List Th) (used limit : Int) (th : Th) (cost : Int) : (Int × Int) × List Th × Int :=
  if cost ≤ limit - used then (((L.length + 1 : Nat), 0), L ++ [th], used + cost) else ((0, 4), L, used)

/-- What a call of a script tells, and what is so then. -/
def stepS (L : List Th) (used limit : Int) (o : OpA) : (Int × Int) × List Th × Int :=
  if o.kind = 0 then (((L.length + 1 : Nat), 0), L ++ [.text o.text], used)
  else if o.kind = 1 then if 65536 < o.text.length then ((0, 3), L, used) else makeS L used limit (.text o.text) (textCost o.text)
  else if o.kind = 2 then makeS L used limit (.flat o.n o.words) (1 + o.words.length)
  else if o.kind = 3 then if o.m < 0 ∨ o.m > 65536 then ((0, 3), L, used) else makeS L used limit (.flat o.n (List.replicate o.m.toNat o.word)) (1 + o.m)
  else if o.kind = 4 then makeS L used limit (.grow o.n []) 1
  else if o.kind = 5 then ((0, (getW L o.ref o.i).2), L, used)
  else if o.kind = 6 then ((0, (getW L o.ref o.i).2), setL L o.ref o.i o.word, used)
  else if o.kind = 7 then ((0, pushR L o.ref used limit), pushL L o.ref o.word used limit, pushU L o.ref used limit)
  else ((0, (dropR L o.ref).2), dropL L o.ref, used)
end Go.Proofs.Ytjbpdmlpjgejcaa.hp
