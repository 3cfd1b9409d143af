/-
  What a heap of the program's is in a heap of the abstract machine, and what its functions do to it.
-/
import Derived.Test.YtjbpdmlpjgejcaaDTy
open Go.Proofs Go Go.Am
namespace Go.Proofs.Ytjbpdmlpjgejcaa.hp
open Go.Proofs.Ytjbpdmlpjgejcaa.vcs
set_option linter.unusedVariables false
set_option linter.unusedSimpArgs false
set_option maxRecDepth 100000

/-- Whose an object is. -/
inductive Tag where
  | none | head | list
  | th (i : Nat) | ws (i : Nat)
  deriving DecidableEq

abbrev Own := Nat → Tag

inductive Th where
  | text (s : List UInt8)
  | flat (t : Int) (ws : List Int)
  | grow (t : Int) (ws : List Int)
  deriving DecidableEq

def wcs (ws : List Int) : List AV := ws.map fun w => .int .u64 w

/-- A slice's elements. -/
def SlcAt (H : AHeap) (own : Own) (g : Tag) (v : AV) (cs : List AV) : Prop :=
  (v = .nilSlc ∧ cs = []) ∨ ∃ k cap ex all pre, v = .slc (.new k) 0 cs.length cap ex 1 ∧ H.get k = some (.cells all true pre) ∧ all.take cs.length = cs ∧ own k = g ∧ cs.length ≤ cap

def ThAt (H : AHeap) (own : Own) (i : Nat) (v : AV) : Th → Prop
  | .text s => v = .ifc 82 (.str s)
  | .flat t ws => ∃ k sv, v = .ifc 66 (.ptr (.new k) 0) ∧ H.get k = some (.cells [.int .i64 t, sv] true []) ∧ own k = .th i ∧ SlcAt H own (.ws i) sv (wcs ws)
  | .grow t ws => ∃ k sv, v = .ifc 76 (.ptr (.new k) 0) ∧ H.get k = some (.cells [.int .i64 t, sv] true []) ∧ own k = .th i ∧ SlcAt H own (.ws i) sv (wcs ws)

structure Rp (H : AHeap) (kh : Nat) (lv : AV) (tvs : List AV) (L : List Th) (used limit : Int) (own : Own) : Prop where
  head : H.get kh = some (.cells [lv, .int .i64 used, .int .i64 limit, .bool true] true [])
  hown : own kh = .head
  list : SlcAt H own .list lv tvs
  len : tvs.length = L.length
  small : L.length < 2 ^ 40
  things : ∀ i v th, tvs[i]? = some v → L[i]? = some th → ThAt H own i v th
  high : ∀ k, H.next ≤ k → own k = .none
  range : 0 ≤ used ∧ used ≤ limit ∧ limit < 2 ^ 40

/-- What is not one's own stays. -/
def Only (own : Own) (H H' : AHeap) : Prop := ∀ k cs pre, own k = .none → H.get k = some (.cells cs true pre) → H'.get k = some (.cells cs true pre)
def OwnExt (own own' : Own) (H : AHeap) : Prop := ∀ k, k < H.next → own' k = own k

variable {E : Env} {w0 : World}

section read
variable {H : AHeap} {kh : Nat} {lv : AV} {tvs : List AV} {L : List Th} {used limit : Int} {own : Own}

theorem SlcAt.len22 {g : Tag} {v : AV} {cs : List AV} (h : SlcAt H own g v cs) : lenV Try.prog H 22 v = some (.int .i64 cs.length) := by
  rcases h with ⟨rfl, rfl⟩ | ⟨k, cap, ex, all, pre, rfl, _⟩ <;> simp
theorem SlcAt.len55 {g : Tag} {v : AV} {cs : List AV} (h : SlcAt H own g v cs) : lenV Try.prog H 55 v = some (.int .i64 cs.length) := by
  rcases h with ⟨rfl, rfl⟩ | ⟨k, cap, ex, all, pre, rfl, _⟩ <;> simp
theorem SlcAt.at22 {g : Tag} {v : AV} {cs : List AV} (h : SlcAt H own g v cs) {n : Nat} (hn : n < cs.length) (k : IntKind) : ∃ p, indexAtA Try.prog 22 v (.int k n) = some p ∧ (∃ b, p = .ptr (.new b) n ∧ own b = g ∧ ∃ all pre, H.get b = some (.cells all true pre) ∧ all.take cs.length = cs ∧ ∃ cap ex, v = .slc (.new b) 0 cs.length cap ex 1 ∧ cs.length ≤ cap) ∧ ∀ E, loadV Try.prog E H 23 p = cs[n]? := by
  rcases h with ⟨rfl, rfl⟩ | ⟨b, cap, ex, all, pre, rfl, h1, h2, h3, h4⟩
  · simp at hn
  · refine ⟨.ptr (.new b) n, ?_, ⟨b, rfl, h3, all, pre, h1, h2, cap, ex, rfl, h4⟩, fun E => ?_⟩
    · rw [ix_22, if_pos ⟨by omega, by omega⟩]; simp
    · rw [ld_23, loadCell_new E h1]
      conv => rhs; rw [← h2]
      rw [List.getElem?_take, if_pos hn]
theorem SlcAt.at55 {g : Tag} {v : AV} {cs : List AV} (h : SlcAt H own g v cs) {n : Nat} (hn : n < cs.length) (k : IntKind) : ∃ p, indexAtA Try.prog 55 v (.int k n) = some p ∧ ∀ E, loadV Try.prog E H 80 p = cs[n]? := by
  rcases h with ⟨rfl, rfl⟩ | ⟨b, cap, ex, all, pre, rfl, h1, h2, h3, h4⟩
  · simp at hn
  · refine ⟨.ptr (.new b) n, ?_, fun E => ?_⟩
    · rw [ix_55, if_pos ⟨by omega, by omega⟩]; simp
    · rw [ld_80, loadCell_new E h1]
      conv => rhs; rw [← h2]
      rw [List.getElem?_take, if_pos hn]

/-- What 'at' tells. -/
def atV (tvs : List AV) (ref : Int) : AV := if 1 ≤ ref then tvs.getD (ref - 1).toNat .nilIfc else .nilIfc

theorem at_ok (R : Rp H kh lv tvs L used limit own) {ref : Int} (h0 : 0 ≤ ref) (h1 : ref < 2 ^ 64) : FnX Try.prog E w0 36 [.ptr (.new kh) 0, .int .u64 ref] H fun v H' => H' = H ∧ v = atV tvs ref := by
  refine V36_ok ?_
  unfold V36
  have hl : tvs.length < 2 ^ 40 := by rw [R.len]; exact R.small
  have l0 : loadCell E H (.new kh) 0 = some lv := by rw [loadCell_new E R.head]; rfl
  simp only [eqvn_25, eqv_23, optW_some, wantsA_bool, beq_self_eq_true, valG_true, pickV_bool, Bool.false_eq_true, if_false]
  by_cases hz : ref = 0
  · subst hz
    simp [atV]
  · have hz' : (ref == 0) = false := by simpa using hz
    simp only [hz', beq_self_eq_true, wantsA_bool, valG_true, optW_some, nilV_ptr, fa_57_0, ld_55, Nat.zero_add, l0, R.list.len55, cv_3_23, wrap_u64 (n := (tvs.length : Int)) (by omega) (by omega), bin_gtr, pickV_bool, Bool.false_eq_true, if_false, bin_sub]
    rw [condW_bool]
    constructor
    · intro hgt
      have hgt : ref > tvs.length := of_decide_eq_true hgt
      refine ⟨trivial, ?_⟩
      have : tvs.length ≤ (ref - 1).toNat := by omega
      rw [atV, if_pos (by omega), List.getD_eq_getElem?_getD, List.getElem?_eq_none this]; rfl
    · intro hle
      have hle : ¬ ref > tvs.length := of_decide_eq_false hle
      rw [wrap_u64 (by omega) (by omega)]
      obtain ⟨p, e1, e2⟩ := R.list.at55 (n := (ref - 1).toNat) (by omega) .u64
      rw [show (((ref - 1).toNat : Nat) : Int) = ref - 1 by omega] at e1
      rw [e1, optW_some, e2, List.getElem?_eq_getElem (by omega), optW_some]
      refine ⟨trivial, ?_⟩
      rw [atV, if_pos (by omega), List.getD_eq_getElem?_getD, List.getElem?_eq_getElem (by omega)]; rfl

theorem room_ok (R : Rp H kh lv tvs L used limit own) {n : Int} : FnX Try.prog E w0 32 [.ptr (.new kh) 0, .int .i64 n] H fun v H' => H' = H ∧ v = .bool (decide (n ≤ limit - used)) := by
  refine V32_ok ?_
  unfold V32
  have hr := R.range
  have l1 : loadCell E H (.new kh) 1 = some (.int .i64 used) := by rw [loadCell_new E R.head]; rfl
  have l2 : loadCell E H (.new kh) 2 = some (.int .i64 limit) := by rw [loadCell_new E R.head]; rfl
  simp only [nevn_25, optW_some, wantsA_bool, beq_self_eq_true, valG_true, nilV_ptr, fa_57_2, fa_57_1, ld_3, Nat.zero_add, l1, l2, bin_sub, bin_leq, pickV_bool, if_true, true_and]
  rw [wrap_i64 (by omega) (by omega)]

/-- The thing of a reference. -/
def thAt (L : List Th) (ref : Int) : Option Th := if 1 ≤ ref then L[(ref - 1).toNat]? else none
def Th.words : Th → Option (List Int)
  | .text _ => none
  | .flat _ ws => some ws
  | .grow _ ws => some ws
def Th.type : Th → Int
  | .text _ => 5
  | .flat t _ => t
  | .grow t _ => t

theorem Rp.at (R : Rp H kh lv tvs L used limit own) (ref : Int) : (thAt L ref = none ∧ atV tvs ref = .nilIfc) ∨ ∃ th, thAt L ref = some th ∧ L[(ref - 1).toNat]? = some th ∧ ThAt H own (ref - 1).toNat (atV tvs ref) th := by
  unfold thAt atV
  by_cases h : 1 ≤ ref
  · rw [if_pos h, if_pos h]
    by_cases hl : (ref - 1).toNat < L.length
    · right
      refine ⟨L[(ref - 1).toNat], List.getElem?_eq_getElem hl, List.getElem?_eq_getElem hl, ?_⟩
      have hl' : (ref - 1).toNat < tvs.length := by rw [R.len]; exact hl
      rw [List.getD_eq_getElem?_getD, List.getElem?_eq_getElem hl']
      exact R.things _ _ _ (List.getElem?_eq_getElem hl') (List.getElem?_eq_getElem hl)
    · left
      refine ⟨List.getElem?_eq_none (by omega), ?_⟩
      rw [List.getD_eq_getElem?_getD, List.getElem?_eq_none (by rw [R.len]; omega)]; rfl
  · rw [if_neg h, if_neg h]; exact .inl ⟨rfl, rfl⟩

/-- Where the words of a thing lie. -/
structure Wd (H : AHeap) (own : Own) (i : Nat) (av : AV) (th : Th) (ws : List Int) (k : Nat) (t : Int) (sv : AV) (u : TypeId) : Prop where
  av : av = .ifc u (.ptr (.new k) 0)
  th : (u = 66 ∧ th = .flat t ws) ∨ (u = 76 ∧ th = .grow t ws)
  get : H.get k = some (.cells [.int .i64 t, sv] true [])
  mine : own k = .th i
  ws : SlcAt H own (.ws i) sv (wcs ws)

theorem Wd.at {i : Nat} {av : AV} {th : Th} {ws : List Int} {k : Nat} {t : Int} {sv : AV} {u : TypeId} (h : Wd H own i av th ws k t sv u) : ThAt H own i av th := by
  rcases h.th with ⟨rfl, rfl⟩ | ⟨rfl, rfl⟩
  · exact ⟨k, sv, h.av, h.get, h.mine, h.ws⟩
  · exact ⟨k, sv, h.av, h.get, h.mine, h.ws⟩
theorem ThAt.wd {i : Nat} {av : AV} {th : Th} {ws : List Int} (h : ThAt H own i av th) (hw : th.words = some ws) : ∃ k t sv u, Wd H own i av th ws k t sv u := by
  cases th with
  | text s => cases hw
  | flat t ws => cases hw; obtain ⟨k, sv, a, b, c, d⟩ := h; exact ⟨k, t, sv, 66, a, .inl ⟨rfl, rfl⟩, b, c, d⟩
  | grow t ws => cases hw; obtain ⟨k, sv, a, b, c, d⟩ := h; exact ⟨k, t, sv, 76, a, .inr ⟨rfl, rfl⟩, b, c, d⟩

theorem words_ok (R : Rp H kh lv tvs L used limit own) {ref : Int} (h0 : 0 ≤ ref) (h1 : ref < 2 ^ 64) : FnX Try.prog E w0 34 [.ptr (.new kh) 0, .int .u64 ref] H fun v H' => H' = H ∧
    ((∃ th ws k t sv u, thAt L ref = some th ∧ L[(ref - 1).toNat]? = some th ∧ th.words = some ws ∧ Wd H own (ref - 1).toNat (atV tvs ref) th ws k t sv u ∧ v = .ptr (.new k) 0) ∨
     ((thAt L ref).bind Th.words = none ∧ v = .nilPtr)) := by
  refine V34_ok ?_
  unfold V34
  refine (at_ok R h0 h1).use ?_
  rintro v H' ⟨rfl, rfl⟩ _ _
  rcases R.at ref with ⟨e1, e2⟩ | ⟨th, e1, e0, e2⟩
  · rw [e1, e2]
    simp
  · cases hw : th.words with
    | none =>
      cases th with
      | text s =>
        simp only [ThAt] at e2
        rw [e1, e2]
        simp [Th.words]
      | _ => cases hw
    | some ws =>
      obtain ⟨k, t, sv, u, h⟩ := e2.wd hw
      rw [h.av]
      rcases h.th with ⟨rfl, e⟩ | ⟨rfl, e⟩
      all_goals (
        simp only [as_66, as_76, optW_some, extractV_tup, Nat.reduceEqDiff, if_true, if_false, List.getElem?_cons_succ, List.getElem?_cons_zero, condW_true, condW_false, nilV_ptr, fa_70_0, fa_77_0, Nat.zero_add]
        exact ⟨by trivial, .inl ⟨th, ws, k, t, sv, _, e1, e0, hw, h.av ▸ h, rfl⟩⟩)

theorem wcs_get {ws : List Int} {n : Nat} (h : n < ws.length) : (wcs ws)[n]? = some (.int .u64 ws[n]) := by
  simp [wcs, List.getElem?_map, List.getElem?_eq_getElem h]
theorem wcs_length (ws : List Int) : (wcs ws).length = ws.length := by simp [wcs]

theorem place_ok {i : Nat} {av : AV} {th : Th} {ws : List Int} {k : Nat} {t : Int} {sv : AV} {u : TypeId} (h : Wd H own i av th ws k t sv u) (hl : ws.length < 2 ^ 40) {n : Int} : FnX Try.prog E w0 35 [.ptr (.new k) 0, .int .i64 n] H fun r H' => H' = H ∧
    if 0 ≤ n ∧ n < ws.length then ∃ b all pre, r = .tup [.ptr (.new b) n.toNat, .bool true] ∧ own b = .ws i ∧ H.get b = some (.cells all true pre) ∧ all.take ws.length = wcs ws ∧ (∀ E, loadV Try.prog E H 23 (.ptr (.new b) n.toNat) = (wcs ws)[n.toNat]?) ∧ ∃ cap ex, sv = .slc (.new b) 0 ws.length cap ex 1 ∧ ws.length ≤ cap
    else r = .tup [.nilPtr, .bool false] := by
  obtain ⟨_, _, h1, h2, h3⟩ := h
  refine V35_ok ?_
  unfold V35
  have l1 : loadCell E H (.new k) 1 = some sv := by rw [loadCell_new E h1]; rfl
  have hlen := h3.len22
  rw [wcs_length] at hlen
  simp only [bin_lss, optW_some, wantsA_bool]
  by_cases hn : n < 0
  · simp only [hn, decide_true, show (true == false) = false from rfl, valG_false, optW_some, pickV_bool, if_true, condW_true]
    exact ⟨by trivial, by rw [if_neg (by omega)]; trivial⟩
  · simp only [hn, decide_false, beq_self_eq_true, valG_true, optW_some, nilV_ptr, fa_68_1, ld_22, Nat.zero_add, l1, hlen, bin_geq, pickV_bool, Bool.false_eq_true, if_false]
    rw [condW_bool]
    constructor
    · intro hge
      have hge : n ≥ ws.length := of_decide_eq_true hge
      exact ⟨by trivial, by rw [if_neg (by omega)]; trivial⟩
    · intro hlt
      have hlt : ¬ n ≥ ws.length := of_decide_eq_false hlt
      obtain ⟨p, e1, ⟨b, rfl, e3, all, pre, e4, e5, cap, ex, e6, e8⟩, e7⟩ := h3.at22 (n := n.toNat) (by rw [wcs_length]; omega) .i64
      rw [show ((n.toNat : Nat) : Int) = n by omega] at e1
      rw [e1, optW_some]
      refine ⟨trivial, ?_⟩
      rw [if_pos ⟨by omega, by omega⟩]
      rw [wcs_length] at e5 e6 e8
      exact ⟨b, all, pre, rfl, e3, e4, e5, e7, cap, ex, e6, e8⟩

/-- What Get tells. -/
def getW (L : List Th) (ref i : Int) : Int × Int := match (thAt L ref).bind Th.words with
  | some ws => if 0 ≤ i ∧ i < ws.length then (ws.getD i.toNat 0, 0) else (0, 2)
  | none => (0, 2)
/-- No list of words is too long. -/
def Short (L : List Th) : Prop := ∀ th ∈ L, ∀ ws, th.words = some ws → ws.length < 2 ^ 40

theorem thAt_mem {L : List Th} {ref : Int} {th : Th} (h : thAt L ref = some th) : th ∈ L := by
  unfold thAt at h
  split at h
  · exact List.mem_of_getElem? h
  · cases h

theorem get_ok (R : Rp H kh lv tvs L used limit own) (hs : Short L) {ref i : Int} (h0 : 0 ≤ ref) (h1 : ref < 2 ^ 64) : FnX Try.prog E w0 14 [.ptr (.new kh) 0, .int .u64 ref, .int .i64 i] H fun v H' => H' = H ∧
    v = .tup [.int .u64 (getW L ref i).1, .int .i64 (getW L ref i).2] := by
  refine V14_ok ?_
  unfold V14
  refine (words_ok R h0 h1).use ?_
  rintro v H' ⟨rfl, ⟨th, ws, k, t, sv, u, e1, e0, e2, hw, rfl⟩ | ⟨e1, rfl⟩⟩ _ _
  · have hl := hs th (thAt_mem e1) ws e2
    unfold getW
    simp only [nevn_71, optW_some, condW_true, e1, Option.bind_some, e2]
    refine (place_ok hw hl).use ?_
    rintro r H' ⟨rfl, hr⟩ _ _
    by_cases hi : 0 ≤ i ∧ i < ws.length
    · rw [if_pos hi] at hr
      obtain ⟨b, all, pre, rfl, _, _, _, hp, _⟩ := hr
      have hn : i.toNat < ws.length := by omega
      simp only [extractV_tup, List.getElem?_cons_zero, List.getElem?_cons_succ, optW_some, condW_true]
      rw [nilV_ptr, optW_some, hp, wcs_get hn, optW_some]
      simp only [if_pos hi]
      rw [List.getD_eq_getElem?_getD, List.getElem?_eq_getElem hn]
      exact ⟨by trivial, rfl⟩
    · rw [if_neg hi] at hr
      subst hr
      simp [if_neg hi]
  · unfold getW
    rw [e1]
    simp
end read
end Go.Proofs.Ytjbpdmlpjgejcaa.hp
