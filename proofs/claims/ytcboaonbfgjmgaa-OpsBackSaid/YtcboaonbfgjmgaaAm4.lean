/-
  'append' keeps the representation.
-/
import Derived.Test.YtcboaonbfgjmgaaAm3
namespace Go.Am
section
variable {E : Env} {w0 : World} {H : AHeap} {w : World} {ρ : LMap} {P : Program}

theorem toList_setManyV : ∀ (vs : List Value) (arr : Array Value) (p : Nat), p + vs.length ≤ arr.size →
    (setManyV arr p vs).toList = arr.toList.take p ++ vs ++ arr.toList.drop (p + vs.length)
  | [], arr, p, _ => by simp [setManyV]
  | v :: vs, arr, p, h => by
    simp only [List.length_cons] at h
    rw [setManyV, toList_setManyV vs _ (p + 1) (by simp; omega)]
    simp only [Array.toList_setIfInBounds, List.length_cons]
    have hp : p < arr.toList.length := by simp; omega
    rw [List.drop_set, if_pos (by omega), List.take_set, List.take_add_one, List.set_append_right _ _ (by rw [List.length_take]; exact Nat.min_le_left _ _)]
    have hp' : p < arr.size := by simpa using hp
    have h0 : p - min p arr.size = 0 := by omega
    simp [hp', h0]
    rw [show p + 1 + vs.length = p + (vs.length + 1) by omega]

theorem Rep.growIn (R : Rep E w0 H w ρ) {k : Nat} {cs : List AV} {pre K pre' : List Nat} {l : Loc} {arr : Array Value} {el : TypeId} {lo hi i cut : Nat} {news : List AV} {vs : List Value}
    {Hs : AHeap} (hk : H.get k = some (.cells cs true pre)) (hl : ρ k = some l) (hn : ρ H.next = none) (hb : w.heap[l.blk]? = some (.cells arr el (lo, hi)))
    (hic : i ≤ cut) (hc : cut ≤ cs.length) (hv : relL ρ news vs) (hroom : l.d + cut + news.length ≤ l.n)
    (hnext : Hs.next = H.next) (hHs : ∀ j, Hs.get j = if j = k then some (.cells (cs.take cut) false pre') else if j ∈ K then none else H.get j)
    (hK : (K = pre ∧ pre' = []) ∨ (K = [] ∧ pre' = pre ∧ cut = cs.length)) :
    Rep E w0 (Hs.new (.cells ((cs.take cut).drop i ++ news) true (k :: pre'))) (putBlock w l.blk (.cells (setManyV arr (l.d + cut) vs) el (lo, hi)))
      (upd ρ H.next ⟨l.blk, l.d + i, l.n⟩) := by
  have hblk := (Array.getElem?_eq_some_iff.1 hb).1
  obtain ⟨l', hl', hbase, arr0, el0, lo0, hi0, e0, e1, e2, e3, e4⟩ := R.objs k _ hk
  rw [hl] at hl'; cases hl'
  rw [hb] at e0; cases e0
  have hlen := relL_length hv
  have hx := upd_ext (ρ := ρ) ⟨l.blk, l.d + i, l.n⟩ hn
  have hkn : k ≠ H.next := by rintro rfl; rw [hn] at hl; cases hl
  have R1 : Rep E w0 Hs w ρ := R.less (by
    intro j o e
    rw [hHs] at e
    split at e
    · rename_i h; subst h; cases e
      refine ⟨_, hk, .inr ⟨cs, true, pre, cut, pre', rfl, rfl, ?_⟩⟩
      rcases hK with ⟨rfl, rfl⟩ | ⟨rfl, rfl, h⟩
      · refine .inr ⟨rfl, fun p hp => ?_⟩
        rw [hHs, if_neg (R.pres j _ hk p hp).1, if_pos hp]
      · exact .inl ⟨rfl, by omega⟩
    · split at e
      · cases e
      · exact ⟨o, e, .inl rfl⟩)
  have htl := toList_setManyV vs arr (l.d + cut) (by omega)
  -- rows that end ahead of what is written
  have hrow : ∀ a n, a + n ≤ l.d + cut → ((setManyV arr (l.d + cut) vs).toList.drop a).take n = (arr.toList.drop a).take n := by
    intro a n h
    rw [htl, List.append_assoc, List.drop_append_of_le_length (by simp; omega), List.take_append_of_le_length (by simp; omega), List.drop_take, List.take_take,
      Nat.min_eq_left (by omega)]
  have hsame : ∀ j oj lj, j ≠ k → Hs.get j = some oj → ρ j = some lj → lj.blk = l.blk → j ∈ pre' ∧ lj.d + lenOfO oj ≤ l.d + cut := by
    intro j oj lj h1 h2 h3 h4
    rw [hHs, if_neg h1] at h2
    split at h2
    · cases h2
    · rename_i hnK
      have hm : j ∈ pre := R.alone hk rfl hl h2 h3 h1 h4
      rcases hK with ⟨rfl, _⟩ | ⟨_, rfl, hcut⟩
      · exact absurd hm hnK
      · refine ⟨hm, ?_⟩
        have := (R.kin k j _ oj l lj hk hm h2 hl h3).2 h4
        simpa [lenOfO, hcut] using this
  have hg : ∀ j o, (Hs.new (.cells ((cs.take cut).drop i ++ news) true (k :: pre'))).get j = some o →
      (j = H.next ∧ o = .cells ((cs.take cut).drop i ++ news) true (k :: pre')) ∨ (j ≠ H.next ∧ Hs.get j = some o) := by
    intro j o e
    rw [AHeap.get_new] at e
    split at e
    · rename_i h; cases e; exact .inl ⟨by rw [← h, hnext], rfl⟩
    · rename_i h; exact .inr ⟨fun h' => h (by rw [h', hnext]), e⟩
  have hsk : Hs.get k = some (.cells (cs.take cut) false pre') := by rw [hHs, if_pos rfl]
  have hpre : ∀ p ∈ pre', p ∈ pre := by
    intro p hp
    rcases hK with ⟨_, rfl⟩ | ⟨_, rfl, _⟩
    · simp at hp
    · exact hp
  refine ⟨by rw [size_putBlock]; exact R.size, ?_, R.env, R.side, ?_, ?_, ?_, ?_⟩
  · intro b hbb; rw [heap_putBlock _ _ _ hblk, if_neg (by omega)]; exact R.old b hbb
  · intro j o e
    rcases hg j o e with ⟨rfl, rfl⟩ | ⟨h1, h2⟩
    · refine ⟨_, upd_same _ _, hbase, _, el, lo, _, by rw [heap_putBlock _ _ _ hblk, if_pos rfl], by rw [size_setManyV, e1], ?_, ?_, e4⟩
      · simp; omega
      · apply relL_ext hx
        have hA : relL ρ (cs.take cut) ((arr.toList.drop l.d).take cut) := by
          have := relL_take e3 cut
          rwa [List.take_take, Nat.min_eq_left hc] at this
        have hB := relL_drop (relL_append hA hv) i
        have hdl : i ≤ ((arr.toList.drop l.d).take cut).length := by simp; omega
        rw [List.drop_append_of_le_length (by simp; omega), List.drop_append_of_le_length hdl] at hB
        have : (((setManyV arr (l.d + cut) vs).toList.drop (l.d + i)).take ((cs.take cut).drop i ++ news).length) = ((arr.toList.drop l.d).take cut).drop i ++ vs := by
          have hm : ((cs.take cut).drop i ++ news).length = (cut - i) + vs.length := by simp; omega
          rw [hm, htl, List.append_assoc, List.drop_append_of_le_length (by simp; omega), List.drop_take, List.drop_take, List.drop_drop,
            show l.d + cut - (l.d + i) = cut - i by omega]
          rw [← List.append_assoc, List.take_append_of_le_length (by simp; omega), List.take_of_length_le (by simp; omega)]
        rw [this]
        exact hB
    · by_cases hjk : j = k
      · subst hjk
        rw [hsk] at h2; cases h2
        refine ⟨l, by rw [upd_ne _ h1]; exact hl, hbase, _, el, lo, _, by rw [heap_putBlock _ _ _ hblk, if_pos rfl], by rw [size_setManyV, e1], by simp; omega, ?_, by simp⟩
        apply relL_ext hx
        rw [hrow _ _ (by simp; omega)]
        have := relL_take e3 cut
        have hcl : (cs.take cut).length = cut := by simp; omega
        rw [hcl]
        rwa [List.take_take, Nat.min_eq_left hc] at this
      · obtain ⟨lj, hlj, hsj, hoj⟩ := R1.objs j o h2
        refine ⟨lj, by rw [upd_ne _ h1]; exact hlj, hsj, objOk_ext hx ?_⟩
        by_cases hbb : lj.blk = l.blk
        · obtain ⟨_, hend⟩ := hsame j o lj hjk h2 hlj hbb
          cases o with
          | map es clock => obtain ⟨mes, g, _⟩ := hoj; rw [hbb, hb] at g; cases g
          | cells cj wj pj =>
            obtain ⟨arr1, el1, lo1, hi1, g0, g1, g2, g3, g4⟩ := hoj
            rw [hbb, hb] at g0; cases g0
            refine ⟨_, el, lo, _, by rw [hbb, heap_putBlock _ _ _ hblk, if_pos rfl], by rw [size_setManyV]; exact g1, g2, ?_, g4⟩
            rw [hrow _ _ (by simpa [lenOfO] using hend)]
            exact g3
        · exact objOk_heap hoj (by rw [heap_putBlock _ _ _ hblk, if_neg (fun e => hbb e.symm)])
  · intro a b oa ob la lb h1 h2 h3 h4 h5 h6
    rcases hg a oa h1 with ⟨rfl, rfl⟩ | ⟨g1, g2⟩ <;> rcases hg b ob h2 with ⟨rfl, rfl⟩ | ⟨g1', g2'⟩
    · exact absurd rfl h5
    · rw [upd_same] at h3; cases h3; rw [upd_ne _ g1'] at h4
      right
      by_cases hbk : b = k
      · simp [preOf, hbk]
      · simp only [preOf, List.mem_cons]; exact .inr (hsame b ob lb hbk g2' h4 h6.symm).1
    · rw [upd_same] at h4; cases h4; rw [upd_ne _ g1] at h3
      left
      by_cases hak : a = k
      · simp [preOf, hak]
      · simp only [preOf, List.mem_cons]; exact .inr (hsame a oa la hak g2 h3 h6).1
    · rw [upd_ne _ g1] at h3; rw [upd_ne _ g1'] at h4
      exact R1.apart a b oa ob la lb g2 g2' h3 h4 h5 h6
  · intro j o e p hp
    rcases hg j o e with ⟨rfl, rfl⟩ | ⟨h1, h2⟩
    · simp only [preOf, List.mem_cons] at hp
      have hps : (ρ p).isSome := by
        rcases hp with rfl | hp
        · rw [hl]; rfl
        · exact (R.pres k _ hk p (hpre p hp)).2
      refine ⟨fun e => ?_, ?_⟩
      · rw [e, hn] at hps; cases hps
      · obtain ⟨m, hm⟩ := Option.isSome_iff_exists.1 hps
        rw [hx _ _ hm]; rfl
    · obtain ⟨a, b⟩ := R1.pres j o h2 p hp
      obtain ⟨m, hm⟩ := Option.isSome_iff_exists.1 b
      exact ⟨a, by rw [hx _ _ hm]; rfl⟩
  · intro j p o op lj lp h1 h2 h3 h4 h5
    rcases hg j o h1 with ⟨rfl, rfl⟩ | ⟨g1, g2⟩
    · simp only [preOf, List.mem_cons] at h2
      have hps : (ρ p).isSome := by
        rcases h2 with rfl | hp
        · rw [hl]; rfl
        · exact (R.pres k _ hk p (hpre p hp)).2
      have hpn : p ≠ H.next := by rintro rfl; rw [hn] at hps; cases hps
      rcases hg p op h3 with ⟨e, _⟩ | ⟨_, g2'⟩
      · exact absurd e hpn
      · rw [upd_same] at h4; cases h4; rw [upd_ne _ hpn] at h5
        by_cases hpk : p = k
        · subst hpk
          rw [hsk] at g2'; cases g2'
          rw [hl] at h5; cases h5
          refine ⟨rfl, fun _ => ?_⟩
          simp [lenOfO]; omega
        · have hp' : p ∈ pre' := h2.resolve_left hpk
          have hp : p ∈ pre := hpre p hp'
          have hgp : H.get p = some op := by
            rw [hHs, if_neg hpk] at g2'
            split at g2'
            · cases g2'
            · exact g2'
          obtain ⟨a, b⟩ := R.kin k p _ op l lp hk hp hgp hl h5
          refine ⟨a, fun e => ?_⟩
          have := (hsame p op lp hpk g2' h5 e).2
          show lp.d + lenOfO op ≤ l.d + i + ((cs.take cut).drop i ++ news).length
          simp only [List.length_append, List.length_drop, List.length_take]
          omega
    · rcases hg p op h3 with ⟨rfl, _⟩ | ⟨g1', g2'⟩
      · have := (R1.pres j o g2 _ h2).2
        rw [hn] at this; cases this
      · rw [upd_ne _ g1] at h4; rw [upd_ne _ g1'] at h5
        exact R1.kin j p o op lj lp g2 h2 g2' h4 h5
end
end Go.Am
