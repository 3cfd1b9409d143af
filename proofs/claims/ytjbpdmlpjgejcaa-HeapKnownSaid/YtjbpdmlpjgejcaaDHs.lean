/-
  New, Record, Empty, Const, Text.
-/
import Derived.Test.YtjbpdmlpjgejcaaDHr
open Go.Proofs Go Go.Am
namespace Go.Proofs.Ytjbpdmlpjgejcaa.hp
open Go.Proofs.Ytjbpdmlpjgejcaa.vcs
set_option linter.unusedVariables false
set_option linter.unusedSimpArgs false
set_option maxRecDepth 100000

variable {E : Env} {w0 : World}

theorem build_57 (n : Int) : buildA Try.prog 57 [(2, .int .i64 n), (3, .bool true)] = some (.agg [.nilSlc, .int .i64 0, .int .i64 n, .bool true]) := by kernel_rfl
theorem max_i (k : IntKind) (a b : Int) : minMaxA true [.int k a, .int k b] = some (.int k (if b > a then b else a)) := rfl
theorem min_i (k : IntKind) (a b : Int) : minMaxA false [.int k a, .int k b] = some (.int k (if b < a then b else a)) := rfl

/-- What New makes of a limit. -/
def cap0 (n : Int) : Int := if 1048576 < (if 0 > n then 0 else n) then 1048576 else if 0 > n then 0 else n

theorem new_ok {H : AHeap} (F : Fine H) {n : Int} : FnX Try.prog E w0 11 [.int .i64 n] H fun v H' => v = .ptr (.new H.next) 0 ∧ Rp H' H.next .nilSlc [] [] 0 (cap0 n) (fun k => if k = H.next then .head else .none) ∧ Stays H H' ∧ H'.next = H.next + 1 := by
  refine V11_ok ?_
  unfold V11
  simp only [max_i, min_i, optW_some, build_57, withW_eq, AV.cells]
  obtain ⟨a, b, c, d⟩ := F.newCells [.nilSlc, .int .i64 0, .int .i64 (cap0 n), .bool true]
  refine ⟨by trivial, ⟨a, if_pos rfl, .inl ⟨rfl, rfl⟩, rfl, by simp, fun i v th h => by simp at h, fun k hk => ?_, ?_⟩, b, c⟩
  · have hk : H.next + 1 ≤ k := hk
    exact if_neg (by omega)
  · unfold cap0
    refine ⟨by omega, ?_, ?_⟩
    · split
      · omega
      · split <;> omega
    · split
      · omega
      · split <;> omega

section
variable {H H' : AHeap} {kh : Nat} {lv : AV} {tvs : List AV} {L : List Th} {used limit : Int} {own own' : Own}

/-- Words of the caller's, that may be read. -/
def Rd (E : Env) (v : AV) (ws : List Int) : Prop :=
  (v = .nilSlc ∧ ws = []) ∨ ∃ b i cap ex sz, v = .slc (.old b) i ws.length cap ex sz ∧ (ws.length = 0 ∨ ∃ cs, E b = some cs ∧ i + ws.length ≤ cs.length ∧ (cs.drop i).take ws.length = wcs ws)

theorem Rd.len {v : AV} {ws : List Int} (h : Rd E v ws) (H : AHeap) : lenV Try.prog H 22 v = some (.int .i64 ws.length) := by
  rcases h with ⟨rfl, rfl⟩ | ⟨b, i, cap, ex, sz, rfl, _⟩ <;> simp
theorem Rd.first {v : AV} {ws : List Int} (h : Rd E v ws) (H : AHeap) : lenOfA v = some ws.length ∧ firstA E H 1 ws.length v = some (wcs ws) := by
  rcases h with ⟨rfl, rfl⟩ | ⟨b, i, cap, ex, sz, rfl, h⟩
  · exact ⟨rfl, rfl⟩
  · refine ⟨rfl, ?_⟩
    simp only [firstA, rangeOr, Nat.mul_one]
    by_cases h0 : ws.length = 0
    · rw [if_pos h0, List.length_eq_zero_iff.1 h0]; rfl
    · rw [if_neg h0]
      obtain ⟨cs, h1, h2, h3⟩ := h.resolve_left h0
      simp only [loadRange, cellsOf, h1]
      rw [if_pos h2, h3]
theorem Rd.at {v : AV} {ws : List Int} (h : Rd E v ws) {n : Nat} (hn : n < ws.length) (H : AHeap) (k : IntKind) : ∃ p, indexAtA Try.prog 22 v (.int k n) = some p ∧ loadV Try.prog E H 23 p = some (.int .u64 (ws.getD n 0)) := by
  rcases h with ⟨rfl, rfl⟩ | ⟨b, i, cap, ex, sz, rfl, h⟩
  · simp at hn
  · obtain ⟨cs, h1, h2, h3⟩ := h.resolve_left (by omega)
    refine ⟨.ptr (.old b) (i + n), ?_, ?_⟩
    · rw [ix_22, if_pos ⟨by omega, by omega⟩]; simp
    · rw [ld_23]
      simp only [loadCell, cellsOf, h1]
      have := congrArg (·[n]?) h3
      simp only [List.getElem?_take, if_pos hn, List.getElem?_drop, wcs_get hn] at this
      rw [this, List.getD_eq_getElem?_getD, List.getElem?_eq_getElem hn]
      rfl

theorem wcs_scalar (ws : List Int) : (wcs ws).all scalar = true := by
  simp [wcs, scalar]

/-- More objects, of which some are a thing's that is to come. -/
theorem Rp.more (R : Rp H kh lv tvs L used limit own) (F : Fine H) (hs : Stays H H') (hn : H.next ≤ H'.next) (he : OwnExt own own' H) (hh : ∀ k, H'.next ≤ k → own' k = .none) : Rp H' kh lv tvs L used limit own' := by
  refine ⟨hs _ _ _ R.head, (he _ (F.lt R.head)).trans R.hown, R.list.keep fun k all pre e h => ⟨hs _ _ _ h, (he _ (F.lt h)).trans e⟩, R.len, R.small, ?_, hh, R.range⟩
  intro i v th h1 h2
  exact (R.things i v th h1 h2).keep fun k all pre e h => ⟨hs _ _ _ h, he _ (F.lt h)⟩

theorem Now.refl (R : Rp H kh lv tvs L used limit own) : Now own H H kh L used limit := ⟨lv, tvs, own, R, fun _ _ => rfl, fun _ _ _ _ h => h⟩
theorem Now.from {H'' : AHeap} (h : Now own' H' H'' kh L used limit) (F : Fine H) (hs : Stays H H') (hn : H.next ≤ H'.next) (he : OwnExt own own' H) : Now own H H'' kh L used limit := by
  obtain ⟨lv, tvs, own2, h1, h2, h3⟩ := h
  refine ⟨lv, tvs, own2, h1, fun k hk => (h2 k (by omega)).trans (he k hk), fun k cs pre hk h => ?_⟩
  exact h3 k cs pre ((he k (F.lt h)).trans hk) (hs _ _ _ h)

theorem build_68 (t : Int) : buildA Try.prog 68 [(0, .int .i64 t)] = some (.agg [.int .i64 t, .nilSlc]) := by kernel_rfl
theorem build_68n (t : Int) : buildA Try.prog 68 [(0, .int .i64 t), (1, .nilSlc)] = some (.agg [.int .i64 t, .nilSlc]) := by kernel_rfl
theorem build_68s (t : Int) (o : Am.Id) (i len cap : Nat) (ex : Bool) (sz : Nat) : buildA Try.prog 68 [(0, .int .i64 t), (1, .slc o i len cap ex sz)] = some (.agg [.int .i64 t, .slc o i len cap ex sz]) := by kernel_rfl
theorem build_70 (a b : AV) : buildA Try.prog 70 [(0, .agg [a, b])] = some (.agg [a, b]) := by kernel_rfl
theorem build_77 (a b : AV) : buildA Try.prog 77 [(0, .agg [a, b])] = some (.agg [a, b]) := by kernel_rfl

/-- A thing's making: what is told, and what is so then. -/
def Makes (own : Own) (H : AHeap) (kh : Nat) (L : List Th) (used limit : Int) (th : Th) (cost : Int) (v : AV) (H' : AHeap) : Prop :=
  if cost ≤ limit - used then v = .tup [.int .u64 (L.length + 1 : Nat), .int .i64 0] ∧ Now own H H' kh (L ++ [th]) (used + cost) limit
  else v = .tup [.int .u64 0, .int .i64 4] ∧ Now own H H' kh L used limit

theorem record_gen (F : Fine H) (R : Rp H kh lv tvs L used limit own) (hlim : L.length + 1 < 2 ^ 40) {t : Int} {v : AV} {ws : List Int} (hvl : ∀ H', lenV Try.prog H' 22 v = some (.int .i64 ws.length)) (hvf : lenOfA v = some ws.length ∧ firstA E H 1 ws.length v = some (wcs ws)) (hl : ws.length < 2 ^ 62) :
    FnX Try.prog E w0 12 [.ptr (.new kh) 0, .int .i64 t, v] H (Makes own H kh L used limit (.flat t ws) (1 + ws.length)) := by
  refine V12_ok ?_
  unfold V12
  rw [hvl, optW_some, bin_add, optW_some, wrap_i64 (by omega) (by omega)]
  refine (room_ok R).use ?_
  rintro r H1 ⟨rfl, rfl⟩ _ _
  by_cases hroom : (1 + ws.length : Int) ≤ limit - used
  rotate_left
  · simp only [hroom, decide_false, un_not, Bool.not_false, optW_some, condW_true, Makes, if_false]
    exact ⟨by trivial, Now.refl R⟩
  simp only [hroom, decide_true, un_not, Bool.not_true, optW_some, condW_false]
  have hkh := F.lt R.head
  have hrg := R.range
  -- the copy of the words
  have main : ∀ (sv : AV) (H6 : AHeap) (own6 : Own), Fine H6 → Stays H1 H6 → H1.next ≤ H6.next → OwnExt own own6 H1 → (∀ k, H6.next ≤ k → own6 k = .none) → SlcAt H6 own6 (.ws L.length) sv (wcs ws) → buildA Try.prog 68 [(0, .int .i64 t), (1, sv)] = some (.agg [.int .i64 t, sv]) →
      (optW (buildA Try.prog 68 [(0, .int .i64 t), (1, sv)]) fun v7 =>
        optW (buildA Try.prog 70 [(0, v7)]) fun v8 =>
        withW (.ptr (.new H6.next) 0) (newCells H6 (AV.cells v8)) fun p10 H9 =>
        optW (ifaceV Try.prog 66 p10) fun v11 =>
        optW (lenV Try.prog H9 22 v) fun v12 =>
        optW (binA Try.prog .add 3 (.int .i64 1) v12) fun v13 =>
        FnX Try.prog E w0 33 [.ptr (.new kh) 0, v11, v13] H9 fun v14 H15 =>
        optW (extractV v14 0) fun v16 =>
        optW (extractV v14 1) fun v17 =>
        Makes own H1 kh L used limit (.flat t ws) (1 + ws.length) (.tup [v16, v17]) H15) := by
    intro sv H6 own6 F6 hs6 hn6 he6 hh6 hsl hb
    simp only [hb, optW_some, build_70, withW_eq, AV.cells, ifc_66, hvl, bin_add]
    rw [wrap_i64 (by omega) (by omega)]
    obtain ⟨n1, n2, n3, F9⟩ := F6.newCells [.int .i64 t, sv]
    have he9 : OwnExt own (fun k => if k = H6.next then .th L.length else own6 k) H1 := fun k hk => (if_neg (by omega)).trans (he6 k hk)
    have hs9 : Stays H1 (newCells H6 [.int .i64 t, sv]) := fun k all pre h => n2 _ _ _ (hs6 _ _ _ h)
    have R9 : Rp (newCells H6 [.int .i64 t, sv]) kh lv tvs L used limit (fun k => if k = H6.next then .th L.length else own6 k) :=
      R.more F hs9 (by omega) he9 (fun k hk => (if_neg (by omega)).trans (hh6 k (by omega)))
    have hT : ThAt (newCells H6 [.int .i64 t, sv]) (fun k => if k = H6.next then .th L.length else own6 k) L.length (.ifc 66 (.ptr (.new H6.next) 0)) (.flat t ws) := by
      refine ⟨H6.next, sv, rfl, n1, if_pos rfl, hsl.keep fun k all pre e h => ⟨n2 _ _ _ h, ?_⟩⟩
      have := F6.lt h
      exact (if_neg (by omega)).trans e
    refine (keep_ok F9 R9 hlim hT (by omega)).use ?_
    intro r H2 hr _ _
    rw [if_pos hroom] at hr
    obtain ⟨rfl, hnow⟩ := hr
    simp only [extractV_tup, List.getElem?_cons_zero, List.getElem?_cons_succ, optW_some, Makes, if_pos hroom]
    exact ⟨by trivial, hnow.from F hs9 (by omega) he9⟩
  rw [app_22_22]
  obtain ⟨f1, f2⟩ := hvf
  rw [f1]
  simp only [Option.bind_some, f2]
  cases hws : ws with
  | nil =>
    subst hws
    have hg : growA E H1 1 8 .nilSlc 0 [] = some (.nilSlc, H1) := by
      unfold growA
      rfl
    simp only [List.length_nil, wcs, List.map_nil, hg, opt2W_some]
    exact main .nilSlc H1 own F (fun _ _ _ h => h) (Nat.le_refl _) (fun _ _ => rfl) R.high (.inl ⟨rfl, rfl⟩) (build_68n t)
  | cons x xs =>
    rw [← hws]
    have h0 : ws.length ≠ 0 := by rw [hws]; simp
    obtain ⟨H6, q, a1, a2, a3, a4, F6⟩ := app_ok (E := E) F (own := fun _ => Tag.none) (g := .ws L.length) (sv := .nilSlc) (cs := []) (.inl ⟨rfl, rfl⟩) (bytes := 8) (m := ws.length) (wcs ws) (wcs_length ws) h0 (wcs_scalar ws) ⟨by omega, by simp only [List.length_nil]; omega⟩
    rw [a1, opt2W_some]
    simp only [List.length_nil, Nat.zero_add, List.nil_append] at a3 ⊢
    have fresh : ∀ k all pre, H1.get k = some (.cells all true pre) → H6.get k = some (.cells all true pre) := by
      intro k all pre h
      exact a4 k all pre (fun e => by cases e) h
    refine main _ H6 (fun k => if k = H1.next then .ws L.length else own k) F6 fresh (by omega) (fun k hk => if_neg (by omega)) (fun k hk => ?_) (.inr ⟨H1.next, _, _, wcs ws, q, by rw [wcs_length], a3, List.take_length, if_pos rfl, by rw [wcs_length]; exact Nat.le_refl _⟩) (build_68s ..)
    exact (if_neg (by omega)).trans (R.high k (by omega))
theorem record_ok (F : Fine H) (R : Rp H kh lv tvs L used limit own) (hlim : L.length + 1 < 2 ^ 40) {t : Int} {v : AV} {ws : List Int} (hv : Rd E v ws) (hl : ws.length < 2 ^ 62) :
    FnX Try.prog E w0 12 [.ptr (.new kh) 0, .int .i64 t, v] H (Makes own H kh L used limit (.flat t ws) (1 + ws.length)) :=
  record_gen F R hlim hv.len (hv.first H) hl
end
end Go.Proofs.Ytjbpdmlpjgejcaa.hp
