/-
  What the functions that turn a heap do.
-/
import Derived.Test.YtjbpdmlpjgejcaaDHp
open Go.Proofs Go Go.Am
namespace Go.Proofs.Ytjbpdmlpjgejcaa.hp
open Go.Proofs.Ytjbpdmlpjgejcaa.vcs
set_option linter.unusedVariables false
set_option linter.unusedSimpArgs false
set_option maxRecDepth 100000

variable {E : Env} {w0 : World}
section
variable {H H' : AHeap} {kh : Nat} {lv : AV} {tvs : List AV} {L : List Th} {used limit : Int} {own own' : Own}

theorem SlcAt.keep {g : Tag} {v : AV} {cs : List AV} (h : SlcAt H own g v cs) (hk : ∀ k all pre, own k = g → H.get k = some (.cells all true pre) → H'.get k = some (.cells all true pre) ∧ own' k = g) : SlcAt H' own' g v cs := by
  rcases h with h | ⟨k, cap, ex, all, pre, e1, e2, e3, e4, e5⟩
  · exact .inl h
  · obtain ⟨a, b⟩ := hk k all pre e4 e2
    exact .inr ⟨k, cap, ex, all, pre, e1, a, e3, b, e5⟩
theorem ThAt.keep {i : Nat} {v : AV} {th : Th} (h : ThAt H own i v th) (hk : ∀ k all pre, own k = .th i ∨ own k = .ws i → H.get k = some (.cells all true pre) → H'.get k = some (.cells all true pre) ∧ own' k = own k) : ThAt H' own' i v th := by
  cases th with
  | text s => exact h
  | flat t ws =>
    obtain ⟨k, sv, e1, e2, e3, e4⟩ := h
    obtain ⟨a, b⟩ := hk k _ _ (.inl e3) e2
    exact ⟨k, sv, e1, a, b.trans e3, e4.keep fun k all pre hg hh => by obtain ⟨a, b⟩ := hk k all pre (.inr hg) hh; exact ⟨a, b.trans hg⟩⟩
  | grow t ws =>
    obtain ⟨k, sv, e1, e2, e3, e4⟩ := h
    obtain ⟨a, b⟩ := hk k _ _ (.inl e3) e2
    exact ⟨k, sv, e1, a, b.trans e3, e4.keep fun k all pre hg hh => by obtain ⟨a, b⟩ := hk k all pre (.inr hg) hh; exact ⟨a, b.trans hg⟩⟩

def Th.put : Th → List Int → Th
  | .text s, _ => .text s
  | .flat t _, ws => .flat t ws
  | .grow t _, ws => .grow t ws
def setL (L : List Th) (ref i w : Int) : List Th := match thAt L ref with
  | some th => match th.words with
    | some ws => if 0 ≤ i ∧ i < ws.length then L.set (ref - 1).toNat (th.put (ws.set i.toNat w)) else L
    | none => L
  | none => L

theorem sz_23 : sizeA Try.prog 23 = some 1 := by kernel_rfl
theorem sz_22 : sizeA Try.prog 22 = some 1 := by kernel_rfl
theorem sz_55 : sizeA Try.prog 55 = some 1 := by kernel_rfl
theorem sz_3 : sizeA Try.prog 3 = some 1 := by kernel_rfl
theorem store1W {H H2 : AHeap} {t : TypeId} {b n : Nat} {x : AV} {K : AV → AHeap → Prop} (hs : sizeA Try.prog t = some 1) (hx : x.cells = [x]) (h : storeRange H (.new b) n [x] = some H2) (hk : K undefA H2) : storeW Try.prog H t (.ptr (.new b) n) x K := by
  unfold storeW
  simp only [hs, hx, List.length_cons, List.length_nil, Nat.zero_add, if_true, h]
  exact hk

/-- Another heap's things stay. -/
theorem Rp.frame (R : Rp H kh lv tvs L used limit own) (hk : ∀ k all pre, own k ≠ .none → H.get k = some (.cells all true pre) → H'.get k = some (.cells all true pre)) (hn : H.next ≤ H'.next) : Rp H' kh lv tvs L used limit own := by
  refine ⟨hk _ _ _ (by rw [R.hown]; exact fun e => by cases e) R.head, R.hown, R.list.keep fun k all pre e h => ⟨hk _ _ _ (by rw [e]; exact fun e => by cases e) h, e⟩, R.len, R.small, ?_, fun k hk => R.high k (by omega), R.range⟩
  intro i v th h1 h2
  refine (R.things i v th h1 h2).keep fun k all pre e h => ⟨hk _ _ _ (by rcases e with e | e <;> rw [e] <;> exact fun e => by cases e) h, rfl⟩

theorem wcs_set (ws : List Int) (n : Nat) (w : Int) : wcs (ws.set n w) = (wcs ws).set n (.int .u64 w) := by simp [wcs, List.map_set]

theorem set_ok (F : Fine H) (R : Rp H kh lv tvs L used limit own) (hs : Short L) {ref i w : Int} (h0 : 0 ≤ ref) (h1 : ref < 2 ^ 64) : FnX Try.prog E w0 13 [.ptr (.new kh) 0, .int .u64 ref, .int .i64 i, .int .u64 w] H fun v H' =>
    v = .int .i64 (getW L ref i).2 ∧ Rp H' kh lv tvs (setL L ref i w) used limit own ∧ Only own H H' ∧ H'.next = H.next := by
  refine V13_ok ?_
  unfold V13
  refine (words_ok R h0 h1).use ?_
  rintro v H' ⟨rfl, ⟨th, ws, k, t, sv, u, e1, e0, e2, hw, rfl⟩ | ⟨e1, rfl⟩⟩ _ _
  · have hl := hs th (thAt_mem e1) ws e2
    unfold getW setL
    simp only [nevn_71, optW_some, condW_true, e1, Option.bind_some, e2]
    refine (place_ok hw hl).use ?_
    rintro r H1 ⟨rfl, hr⟩ _ _
    by_cases hi : 0 ≤ i ∧ i < ws.length
    · rw [if_pos hi] at hr
      obtain ⟨b, all, pre, rfl, hob, hb, htake, _, cap, ex, hsv, hcap⟩ := hr
      have hn : i.toNat < ws.length := by omega
      have hall : i.toNat < all.length := by
        have := congrArg List.length htake
        rw [wcs_length, List.length_take] at this
        omega
      obtain ⟨H2, g1, g2, g3, g4, g5⟩ := F.store hb (x := .int .u64 w) hall rfl
      simp only [extractV_tup, List.getElem?_cons_zero, List.getElem?_cons_succ, optW_some, condW_true, nilV_ptr, if_pos hi]
      refine store1W sz_23 rfl g1 ⟨by trivial, ?_, ?_, g4⟩
      · have hne : ∀ k, own k ≠ .ws (ref - 1).toNat → k ≠ b := fun k h e => h (e ▸ hob)
        refine ⟨g3 _ _ _ (hne _ (by rw [R.hown]; exact fun e => by cases e)) R.head, R.hown, R.list.keep fun k all pre e h => ⟨g3 _ _ _ (hne _ (by rw [e]; exact fun e => by cases e)) h, e⟩, by rw [List.length_set]; exact R.len, by rw [List.length_set]; exact R.small, ?_, fun k hk => R.high k (by omega), R.range⟩
        intro j v x hj hx
        rw [List.getElem?_set] at hx
        split at hx
        · rename_i hij
          subst hij
          split at hx
          · cases hx
            have hat : atV tvs ref = v := by
              have h1r : 1 ≤ ref := by
                refine Int.not_lt.1 fun h => ?_
                unfold thAt at e1
                rw [if_neg (by omega)] at e1; cases e1
              rw [atV, if_pos h1r, List.getD_eq_getElem?_getD, hj]; rfl
            rw [← hat]
            have hsl : SlcAt H2 own (.ws (ref - 1).toNat) sv (wcs (ws.set i.toNat w)) := by
              refine .inr ⟨b, cap, ex, _, [], ?_, g2, ?_, hob, by rw [wcs_length, List.length_set]; exact hcap⟩
              · rw [hsv, wcs_length, List.length_set]
              · rw [wcs_length, List.length_set, wcs_set, ← htake, List.take_set]
            have hkb : k ≠ b := hne _ (by rw [hw.mine]; exact fun e => by cases e)
            refine Wd.at (ws := ws.set i.toNat w) (k := k) (t := t) (sv := sv) (u := u) ⟨hw.av, ?_, g3 _ _ _ hkb hw.get, hw.mine, hsl⟩
            rcases hw.th with ⟨a, rfl⟩ | ⟨a, rfl⟩
            · exact .inl ⟨a, rfl⟩
            · exact .inr ⟨a, rfl⟩
          · cases hx
        · rename_i hij
          refine (R.things j v x hj hx).keep fun k all pre e h => ⟨g3 _ _ _ (hne _ ?_) h, rfl⟩
          rcases e with e | e <;> rw [e] <;> intro e <;> cases e
          exact hij rfl
      · intro k all' pre' hk hg
        refine g3 _ _ _ (fun e => ?_) hg
        rw [e, hob] at hk; cases hk
    · rw [if_neg hi] at hr
      subst hr
      simp only [extractV_tup, List.getElem?_cons_zero, List.getElem?_cons_succ, optW_some, condW_false, if_neg hi]
      exact ⟨by trivial, R, fun _ _ _ _ h => h, by trivial⟩
  · unfold getW setL
    rw [e1]
    have : (match thAt L ref with
      | some th => match th.words with
        | some ws => if 0 ≤ i ∧ i < ws.length then L.set (ref - 1).toNat (th.put (ws.set i.toNat w)) else L
        | none => L
      | none => L) = L := by
      cases hth : thAt L ref with
      | none => rfl
      | some th =>
        rw [hth] at e1
        simp only [Option.bind_some] at e1
        simp only [e1]
    rw [this]
    simp only [nevnn_71, optW_some, condW_false]
    exact ⟨by trivial, R, fun _ _ _ _ h => h, by trivial⟩
end
end Go.Proofs.Ytjbpdmlpjgejcaa.hp
