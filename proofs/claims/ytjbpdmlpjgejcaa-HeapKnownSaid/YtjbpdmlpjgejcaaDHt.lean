/-
  Empty, Push, Drop, Len, Used, Bytes, Const, Text.
-/
import Derived.Test.YtjbpdmlpjgejcaaDHs
open Go.Proofs Go Go.Am
namespace Go.Proofs.Ytjbpdmlpjgejcaa.hp
open Go.Proofs.Ytjbpdmlpjgejcaa.vcs
set_option linter.unusedVariables false
set_option linter.unusedSimpArgs false
set_option maxRecDepth 100000

variable {E : Env} {w0 : World}
section
variable {H H' : AHeap} {kh : Nat} {lv : AV} {tvs : List AV} {L : List Th} {used limit : Int} {own own' : Own}

theorem empty_ok (F : Fine H) (R : Rp H kh lv tvs L used limit own) (hlim : L.length + 1 < 2 ^ 40) {t : Int} :
    FnX Try.prog E w0 15 [.ptr (.new kh) 0, .int .i64 t] H (Makes own H kh L used limit (.grow t []) 1) := by
  refine V15_ok ?_
  unfold V15
  simp only [build_68, optW_some, build_77, withW_eq, AV.cells, ifc_76]
  obtain ⟨n1, n2, n3, F9⟩ := F.newCells [.int .i64 t, .nilSlc]
  have hkh := F.lt R.head
  have he9 : OwnExt own (fun k => if k = H.next then .th L.length else own k) H := fun k hk => if_neg (by omega)
  have R9 : Rp (newCells H [.int .i64 t, .nilSlc]) kh lv tvs L used limit (fun k => if k = H.next then .th L.length else own k) :=
    R.more F n2 (by omega) he9 (fun k hk => (if_neg (by omega)).trans (R.high k (by omega)))
  have hT : ThAt (newCells H [.int .i64 t, .nilSlc]) (fun k => if k = H.next then .th L.length else own k) L.length (.ifc 76 (.ptr (.new H.next) 0)) (.grow t []) :=
    ⟨H.next, .nilSlc, rfl, n1, if_pos rfl, .inl ⟨rfl, rfl⟩⟩
  refine (keep_ok F9 R9 hlim hT (by omega)).use ?_
  intro r H2 hr _ _
  unfold Makes
  by_cases hroom : (1 : Int) ≤ limit - used
  · rw [if_pos hroom] at hr
    obtain ⟨rfl, hnow⟩ := hr
    simp only [extractV_tup, List.getElem?_cons_zero, List.getElem?_cons_succ, optW_some, if_pos hroom]
    exact ⟨by trivial, hnow.from F n2 (by omega) he9⟩
  · rw [if_neg hroom] at hr
    obtain ⟨rfl, rfl⟩ := hr
    simp only [extractV_tup, List.getElem?_cons_zero, List.getElem?_cons_succ, optW_some, if_neg hroom]
    exact ⟨by trivial, (Now.refl R9).from F n2 (by omega) he9⟩

theorem used_ok (R : Rp H kh lv tvs L used limit own) : FnX Try.prog E w0 19 [.ptr (.new kh) 0] H fun v H' => H' = H ∧ v = .int .i64 used := by
  refine V19_ok ?_
  unfold V19
  have l1 : loadCell E H (.new kh) 1 = some (.int .i64 used) := by rw [loadCell_new E R.head]; rfl
  simp only [eqvn_25, optW_some, condW_false, nilV_ptr, fa_57_1, ld_3, Nat.zero_add, l1]
  exact ⟨by trivial, by trivial⟩

/-- The text of a reference. -/
def textR (L : List Th) (ref : Int) : List UInt8 × Bool := match thAt L ref with
  | some (.text s) => (s, true)
  | _ => ([], false)
theorem bytes_ok (R : Rp H kh lv tvs L used limit own) {ref : Int} (h0 : 0 ≤ ref) (h1 : ref < 2 ^ 64) : FnX Try.prog E w0 31 [.ptr (.new kh) 0, .int .u64 ref] H fun v H' => H' = H ∧ v = .tup [.str (textR L ref).1, .bool (textR L ref).2] := by
  refine V31_ok ?_
  unfold V31
  refine (at_ok R h0 h1).use ?_
  rintro v H' ⟨rfl, rfl⟩ _ _
  unfold textR
  rcases R.at ref with ⟨e1, e2⟩ | ⟨th, e1, e0, e2⟩
  · rw [e1, e2]
    simp
  · rw [e1]
    cases th with
    | text s =>
      simp only [ThAt] at e2
      rw [e2]
      simp
    | flat t ws =>
      obtain ⟨k, sv, e3, _⟩ := e2
      rw [e3]
      simp
    | grow t ws =>
      obtain ⟨k, sv, e3, _⟩ := e2
      rw [e3]
      simp

/-- What Len tells. -/
def lenR (L : List Th) (ref : Int) : Int × Bool := match thAt L ref with
  | some (.text s) => (s.length, true)
  | some (.flat _ ws) => (ws.length, true)
  | some (.grow _ ws) => (ws.length, true)
  | none => (0, false)
theorem len_ok (R : Rp H kh lv tvs L used limit own) {ref : Int} (h0 : 0 ≤ ref) (h1 : ref < 2 ^ 64) : FnX Try.prog E w0 17 [.ptr (.new kh) 0, .int .u64 ref] H fun v H' => H' = H ∧ v = .tup [.int .i64 (lenR L ref).1, .bool (lenR L ref).2] := by
  refine V17_ok ?_
  unfold V17
  refine (words_ok R h0 h1).use ?_
  rintro v H' ⟨rfl, ⟨th, ws, k, t, sv, u, e1, e0, e2, hw, rfl⟩ | ⟨e1, rfl⟩⟩ _ _
  · have hlen := hw.ws.len22
    rw [wcs_length] at hlen
    have l1 : loadCell E H' (.new k) 1 = some sv := by rw [loadCell_new E hw.get]; rfl
    simp only [nevn_71, optW_some, condW_true, nilV_ptr, fa_68_1, ld_22, Nat.zero_add, l1, hlen]
    refine ⟨by trivial, ?_⟩
    unfold lenR
    rw [e1]
    rcases hw.th with ⟨_, rfl⟩ | ⟨_, rfl⟩ <;> rfl
  · simp only [nevnn_71, optW_some, condW_false]
    refine (bytes_ok R h0 h1).use ?_
    rintro v H' ⟨rfl, rfl⟩ _ _
    simp only [extractV_tup, List.getElem?_cons_zero, List.getElem?_cons_succ, optW_some, len_9]
    refine ⟨by trivial, ?_⟩
    unfold textR lenR
    cases hth : thAt L ref with
    | none => rfl
    | some th =>
      rw [hth] at e1
      cases th <;> first | rfl | cases e1

/-- The thing that grows, of a reference. -/
def growAt (L : List Th) (ref : Int) : Option (Int × List Int) := match thAt L ref with
  | some (.grow t ws) => some (t, ws)
  | _ => none

theorem grow_at (R : Rp H kh lv tvs L used limit own) (ref : Int) :
    (growAt L ref = none ∧ assertA Try.prog (atV tvs ref) 76 true = some (.tup [.nilPtr, .bool false])) ∨
    ∃ t ws k sv, growAt L ref = some (t, ws) ∧ L[(ref - 1).toNat]? = some (.grow t ws) ∧ Wd H own (ref - 1).toNat (atV tvs ref) (.grow t ws) ws k t sv 76 ∧ assertA Try.prog (atV tvs ref) 76 true = some (.tup [.ptr (.new k) 0, .bool true]) ∧ tvs[(ref - 1).toNat]? = some (atV tvs ref) := by
  unfold growAt
  rcases R.at ref with ⟨e1, e2⟩ | ⟨th, e1, e0, e2⟩
  · left
    rw [e1, e2]
    exact ⟨rfl, as0_76⟩
  · cases th with
    | text s =>
      left
      simp only [ThAt] at e2
      rw [e1, e2]
      exact ⟨rfl, by rw [as_76]; rfl⟩
    | flat t ws =>
      left
      obtain ⟨k, sv, e3, _⟩ := e2
      rw [e1, e3]
      exact ⟨rfl, by rw [as_76]; rfl⟩
    | grow t ws =>
      right
      have e2' := e2
      obtain ⟨k, sv, e3, e4, e5, e6⟩ := e2'
      refine ⟨t, ws, k, sv, by rw [e1], e0, ⟨e3, .inr ⟨rfl, rfl⟩, e4, e5, e6⟩, by rw [e3, as_76]; rfl, ?_⟩
      have h1r : 1 ≤ ref := by
        refine Int.not_lt.1 fun h => ?_
        unfold thAt at e1
        rw [if_neg (by omega)] at e1; cases e1
      have hl := (List.getElem?_eq_some_iff.1 e0).1
      have hlen := R.len
      rw [atV, if_pos h1r, List.getD_eq_getElem?_getD, List.getElem?_eq_getElem (by omega)]; rfl

/-- What Push tells. -/
def pushR (L : List Th) (ref used limit : Int) : Int := match growAt L ref with
  | some (_, ws) => if ws.length = 65536 then 3 else if 1 ≤ limit - used then 0 else 4
  | none => 2
def pushL (L : List Th) (ref w used limit : Int) : List Th := match growAt L ref with
  | some (t, ws) => if ws.length = 65536 then L else if 1 ≤ limit - used then L.set (ref - 1).toNat (.grow t (ws ++ [w])) else L
  | none => L
def pushU (L : List Th) (ref used limit : Int) : Int := match growAt L ref with
  | some (_, ws) => if ws.length = 65536 then used else if 1 ≤ limit - used then used + 1 else used
  | none => used

/-- One thing is another one now. -/
theorem Rp.turn (R : Rp H kh lv tvs L used limit own) (F : Fine H) {i : Nat} {av : AV} {th' : Th} {used' : Int} (hav : tvs[i]? = some av) (hh : H'.get kh = some (.cells [lv, .int .i64 used', .int .i64 limit, .bool true] true []))
    (hr : 0 ≤ used' ∧ used' ≤ limit) (he : OwnExt own own' H) (hn : ∀ k, H'.next ≤ k → own' k = .none)
    (hst : ∀ k all pre, own k ≠ .head → own k ≠ .th i → own k ≠ .ws i → H.get k = some (.cells all true pre) → H'.get k = some (.cells all true pre))
    (hT : ThAt H' own' i av th') : Rp H' kh lv tvs (L.set i th') used' limit own' := by
  refine ⟨hh, (he _ (F.lt R.head)).trans R.hown, R.list.keep fun k all pre e h => ⟨hst _ _ _ (by rw [e]; exact fun e => by cases e) (by rw [e]; exact fun e => by cases e) (by rw [e]; exact fun e => by cases e) h, (he _ (F.lt h)).trans e⟩,
    by rw [List.length_set]; exact R.len, by rw [List.length_set]; exact R.small, ?_, hn, ⟨hr.1, hr.2, R.range.2.2⟩⟩
  intro j v x hj hx
  rw [List.getElem?_set] at hx
  split at hx
  · rename_i hij
    subst hij
    split at hx
    · cases hx
      rw [hav] at hj
      cases hj
      exact hT
    · cases hx
  · rename_i hij
    refine (R.things j v x hj hx).keep fun k all pre e h => ⟨hst _ _ _ ?_ ?_ ?_ h, he _ (F.lt h)⟩
    all_goals (rcases e with e | e <;> rw [e] <;> intro e <;> cases e)
    all_goals exact hij rfl

theorem push_ok (F : Fine H) (R : Rp H kh lv tvs L used limit own) (hs : Short L) {ref w : Int} (h0 : 0 ≤ ref) (h1 : ref < 2 ^ 64) : FnX Try.prog E w0 16 [.ptr (.new kh) 0, .int .u64 ref, .int .u64 w] H fun v H' =>
    v = .int .i64 (pushR L ref used limit) ∧ Now own H H' kh (pushL L ref w used limit) (pushU L ref used limit) limit := by
  refine V16_ok ?_
  unfold V16
  refine (at_ok R h0 h1).use ?_
  rintro v H' ⟨rfl, rfl⟩ _ _
  unfold pushR pushL pushU
  rcases grow_at R ref with ⟨g1, g2⟩ | ⟨t, ws, k, sv, g1, g0, hw, g2, hav⟩
  · rw [g1, g2]
    simp only [optW_some, extractV_tup, List.getElem?_cons_zero, List.getElem?_cons_succ, un_not, Bool.not_false, condW_true]
    exact ⟨by trivial, Now.refl R⟩
  · rw [g1, g2]
    have hl : ws.length < 2 ^ 40 := hs _ (List.mem_of_getElem? g0) ws rfl
    have hlen := hw.ws.len22
    rw [wcs_length] at hlen
    have l1 : loadCell E H' (.new k) 1 = some sv := by rw [loadCell_new E hw.get]; rfl
    simp only [optW_some, extractV_tup, List.getElem?_cons_zero, List.getElem?_cons_succ, un_not, Bool.not_true, condW_false, nilV_ptr, fa_77_0, fa_68_1, ld_22, Nat.zero_add, l1, hlen, eqv_3]
    rw [condW_bool]
    constructor
    · intro hfull
      have hfull : ws.length = 65536 := by have : (ws.length : Int) = 65536 := by simpa using hfull
                                           omega
      simp only [if_pos hfull]
      exact ⟨by trivial, Now.refl R⟩
    · intro hnf
      have hnf : ¬ ws.length = 65536 := by
        intro e
        rw [e] at hnf
        exact absurd hnf (by decide)
      simp only [if_neg hnf]
      refine (room_ok R).use ?_
      rintro v H1 ⟨rfl, rfl⟩ _ _
      by_cases hroom : (1 : Int) ≤ limit - used
      rotate_left
      · simp only [hroom, decide_false, un_not, Bool.not_false, optW_some, condW_true, if_false]
        exact ⟨by trivial, Now.refl R⟩
      have hr := R.range
      simp only [hroom, decide_true, un_not, Bool.not_true, optW_some, condW_false, if_true, nilV_ptr, fa_57_1, Nat.zero_add]
      have l2 : loadCell E H1 (.new kh) 1 = some (.int .i64 used) := by rw [loadCell_new E R.head]; rfl
      simp only [ld_3, l2, optW_some, bin_add]
      rw [wrap_i64 (by omega) (by omega)]
      obtain ⟨H2, p1, p2, p3, p4, F2⟩ := F.store R.head (n := 1) (x := .int .i64 (used + 1)) (by simp) rfl
      refine store1W sz_3 rfl p1 ?_
      simp only [List.set_cons_succ, List.set_cons_zero] at p2
      have hh : ∀ k, own k ≠ .head → k ≠ kh := fun k h e => h (e ▸ R.hown)
      have hk2 := p3 _ _ _ (hh k (by rw [hw.mine]; exact fun e => by cases e)) hw.get
      have l3 : loadCell E H2 (.new k) 1 = some sv := by rw [loadCell_new E hk2]; rfl
      simp only [fa_77_0, fa_68_1, ld_22, Nat.zero_add, l3, optW_some, bs_22, opt2W_some, app_22_22]
      obtain ⟨n1, n2, n3, F3⟩ := F2.newCells [AV.int .u64 w]
      have hl3 : SlcAt (newCells H2 [AV.int .u64 w]) own (.ws (ref - 1).toNat) sv (wcs ws) := hw.ws.keep fun k all pre e h => ⟨n2 _ _ _ (p3 _ _ _ (hh k (by rw [e]; exact fun e => by cases e)) h), e⟩
      have hfirst : firstA E (newCells H2 [AV.int .u64 w]) 1 1 (.slc (.new H2.next) 0 1 1 true 1) = some [AV.int .u64 w] := by
        simp only [firstA]
        rw [rangeOr_new E n1 _ _ (by simp)]
        rfl
      simp only [lenOfA, Option.bind_some, hfirst]
      obtain ⟨H4, q, a1, a2, a3, a4, F4⟩ := app_ok (E := E) F3 hl3 (bytes := 8) (m := 1) [AV.int .u64 w] rfl (by omega) rfl ⟨by omega, by rw [wcs_length]; omega⟩
      rw [a1, opt2W_some]
      have hk4 : H4.get k = some (.cells [.int .i64 t, sv] true []) := a4 _ _ _ (by rw [hw.mine]; exact fun e => by cases e) (n2 _ _ _ hk2)
      rw [wcs_length] at a1 ⊢
      obtain ⟨H5, s1, s2, s3, s4, F5⟩ := F4.store hk4 (n := 1) (x := .slc (.new (newCells H2 [AV.int .u64 w]).next) 0 (ws.length + 1) (ws.length + 1) false 1) (by simp) rfl
      refine store1W sz_22 rfl s1 ?_
      simp only [List.set_cons_succ, List.set_cons_zero] at s2
      have hn2 : (newCells H2 [AV.int .u64 w]).next = H1.next + 1 := by rw [n3, p4]
      rw [hn2] at s2 a3 a2
      have hn5 : H5.next = H1.next + 2 := by rw [s4, a2]
      have stay : ∀ k' all pre, own k' ≠ .head → own k' ≠ .th (ref - 1).toNat → own k' ≠ .ws (ref - 1).toNat → H1.get k' = some (.cells all true pre) → H5.get k' = some (.cells all true pre) := by
        intro k' all pre e1 e2 e3 h
        exact s3 _ _ _ (fun e => e2 (e ▸ hw.mine)) (a4 _ _ _ e3 (n2 _ _ _ (p3 _ _ _ (hh k' e1) h)))
      have hklt := F.lt hw.get
      refine ⟨by trivial, lv, tvs, fun k => if k = H1.next + 1 then .ws (ref - 1).toNat else own k, ?_, fun k hk => if_neg (by omega), ?_⟩
      · refine R.turn F hav ?_ ⟨by omega, by omega⟩ (fun k hk => if_neg (by omega)) (fun k hk => (if_neg (by omega)).trans (R.high k (by omega))) stay ?_
        · exact s3 _ _ _ (fun e => by have := R.hown; rw [e, hw.mine] at this; cases this) (a4 _ _ _ (by rw [R.hown]; exact fun e => by cases e) (n2 _ _ _ p2))
        · refine ⟨k, _, hw.av, s2, (if_neg (by omega)).trans hw.mine, .inr ⟨H1.next + 1, ws.length + 1, false, _, q, ?_, s3 _ _ _ (by omega) a3, ?_, if_pos rfl, ?_⟩⟩
          · rw [wcs_length]; simp
          · rw [show wcs (ws ++ [w]) = wcs ws ++ [.int .u64 w] by simp [wcs]]
            exact List.take_length
          · rw [wcs_length]; simp
      · intro k' all pre hk h
        exact stay k' all pre (by rw [hk]; exact fun e => by cases e) (by rw [hk]; exact fun e => by cases e) (by rw [hk]; exact fun e => by cases e) h

/-- What Drop tells. -/
def dropR (L : List Th) (ref : Int) : Int × Int := match growAt L ref with
  | some (_, ws) => if ws.length = 0 then (0, 7) else (ws.getD (ws.length - 1) 0, 0)
  | none => (0, 2)
def dropL (L : List Th) (ref : Int) : List Th := match growAt L ref with
  | some (t, ws) => if ws.length = 0 then L else L.set (ref - 1).toNat (.grow t (ws.take (ws.length - 1)))
  | none => L

theorem cut_22 (H : AHeap) (o : Am.Id) (i len cap : Nat) (ex : Bool) (n : Nat) (h : n ≤ cap) : sliceA Try.prog H 22 (.slc (.new i) 0 len cap ex 1) none (some (.int .i64 (n : Int))) none = some (.slc (.new i) 0 n cap ex 1) := by
  have e : sliceA Try.prog H 22 (.slc (.new i) 0 len cap ex 1) none (some (.int .i64 (n : Int))) none = (boundsA len cap none (some (.int .i64 (n : Int))) none).bind fun r => some (.slc (.new i) (0 + r.1 * 1) (r.2.1 - r.1) (r.2.2 - r.1) (ex || false) 1) := by kernel_rfl
  rw [e]
  simp only [boundsA, topA, highA, lowA, boundA, Option.bind_some]
  rw [if_pos ⟨by omega, by omega⟩]
  simp

theorem drop_ok (F : Fine H) (R : Rp H kh lv tvs L used limit own) (hs : Short L) {ref : Int} (h0 : 0 ≤ ref) (h1 : ref < 2 ^ 64) : FnX Try.prog E w0 18 [.ptr (.new kh) 0, .int .u64 ref] H fun v H' =>
    v = .tup [.int .u64 (dropR L ref).1, .int .i64 (dropR L ref).2] ∧ Now own H H' kh (dropL L ref) used limit := by
  refine V18_ok ?_
  unfold V18
  refine (at_ok R h0 h1).use ?_
  rintro v H' ⟨rfl, rfl⟩ _ _
  unfold dropR dropL
  rcases grow_at R ref with ⟨g1, g2⟩ | ⟨t, ws, k, sv, g1, g0, hw, g2, hav⟩
  · rw [g1, g2]
    simp only [optW_some, extractV_tup, List.getElem?_cons_zero, List.getElem?_cons_succ, un_not, Bool.not_false, condW_true]
    exact ⟨by trivial, Now.refl R⟩
  · rw [g1, g2]
    have hl : ws.length < 2 ^ 40 := hs _ (List.mem_of_getElem? g0) ws rfl
    have hlen := hw.ws.len22
    rw [wcs_length] at hlen
    have l1 : loadCell E H' (.new k) 1 = some sv := by rw [loadCell_new E hw.get]; rfl
    simp only [optW_some, extractV_tup, List.getElem?_cons_zero, List.getElem?_cons_succ, un_not, Bool.not_true, condW_false, nilV_ptr, fa_77_0, fa_68_1, ld_22, Nat.zero_add, l1, hlen, bin_sub, bin_lss]
    rw [wrap_i64 (by omega) (by omega), condW_bool]
    constructor
    · intro hneg
      have hneg : (ws.length : Int) - 1 < 0 := of_decide_eq_true hneg
      simp only [if_pos (show ws.length = 0 by omega)]
      exact ⟨by trivial, Now.refl R⟩
    · intro hpos
      have hpos : ¬ (ws.length : Int) - 1 < 0 := of_decide_eq_false hpos
      simp only [if_neg (show ¬ ws.length = 0 by omega)]
      rw [show (ws.length : Int) - 1 = ((ws.length - 1 : Nat) : Int) by omega]
      obtain ⟨p, i1, ⟨b, rfl, hob, all, pre, hb, htake, cap, ex, rfl, hcap⟩, i2⟩ := hw.ws.at22 (n := ws.length - 1) (by rw [wcs_length]; omega) .i64
      rw [wcs_length] at i1 htake hcap ⊢
      rw [i1, optW_some, i2, wcs_get (by omega), optW_some, cut_22 _ (.new b) _ _ _ _ _ (by omega), optW_some]
      rw [wcs_length] at hw
      have hget := hw.get
      obtain ⟨H2, p1, p2, p3, p4, F2⟩ := F.store hget (n := 1) (x := .slc (.new b) 0 (ws.length - 1) cap ex 1) (by simp) rfl
      refine store1W sz_22 rfl p1 ?_
      simp only [List.set_cons_succ, List.set_cons_zero] at p2
      have stay : ∀ k' all pre, own k' ≠ .th (ref - 1).toNat → H'.get k' = some (.cells all true pre) → H2.get k' = some (.cells all true pre) :=
        fun k' all pre e h => p3 _ _ _ (fun e' => e (e' ▸ hw.mine)) h
      refine ⟨?_, lv, tvs, own, ?_, fun _ _ => rfl, fun k' all' pre' hk h => stay k' _ _ (by rw [hk]; exact fun e => by cases e) h⟩
      · rw [List.getD_eq_getElem?_getD, List.getElem?_eq_getElem (by omega)]; rfl
      · refine R.turn F hav (stay _ _ _ (by rw [R.hown]; exact fun e => by cases e) R.head) ⟨R.range.1, R.range.2.1⟩ (fun _ _ => rfl) (fun k hk => R.high k (by omega)) (fun k all pre _ e _ h => stay k all pre e h) ?_
        refine ⟨k, _, hw.av, p2, hw.mine, .inr ⟨b, cap, ex, all, pre, ?_, stay _ _ _ (by rw [hob]; exact fun e => by cases e) hb, ?_, hob, ?_⟩⟩
        · rw [wcs_length, List.length_take]
          congr 1
          omega
        · rw [wcs_length, List.length_take]
          have : min (ws.length - 1) ws.length = ws.length - 1 := by omega
          rw [this]
          have := congrArg (List.take (ws.length - 1)) htake
          rw [List.take_take, show min (ws.length - 1) ws.length = ws.length - 1 by omega] at this
          rw [this]
          simp [wcs, List.map_take]
        · rw [wcs_length, List.length_take]; omega
end
end Go.Proofs.Ytjbpdmlpjgejcaa.hp
