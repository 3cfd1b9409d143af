/-
  The document's Encode, Size.
-/
import Derived.Test.YtcboaonbfgjmgaaOi
open Go.Proofs Go Go.Am
namespace Go.Proofs.Ytcboaonbfgjmgaa.op
open Go.Proofs.Ytcboaonbfgjmgaa.vb Go.Proofs.Ytcboaonbfgjmgaa.vr
set_option linter.unusedVariables false
set_option linter.unusedSimpArgs false
set_option maxRecDepth 100000

variable {E : Env} {w0 : World}

section
variable {H : AHeap} {b : AV} {bs : List Int} {k : Nat}

theorem putR_ok (F : Fine H) (h : Bs H b bs k) (hk : k < H.next) {n : Int} {s : Nat} (hs : s ≤ 8) (hl : bs.length + s < 2 ^ 40) :
    FnX Try.prog E w0 39 [b, .int .i64 n, .int .i64 (s : Int)] H fun v H' => ∃ k', Bs H' v (bs ++ fixS n s) k' ∧ (k' = k ∨ H.next ≤ k') ∧ k' < H'.next ∧ Keeps (fun j => j ≠ k) H H' := by
  refine V39_ok ?_
  unfold V39
  refine loop39_0 (I := fun m t0 t1 t2 t7 H' => t1 = .int .i64 n ∧ t2 = .int .i64 (s : Int) ∧ ∃ i k' : Nat, t7 = .int .i64 (i : Int) ∧ i + m = s ∧ Fine H' ∧ H.next ≤ H'.next ∧ Bs H' t0 (bs ++ fixS n i) k' ∧ (k' = k ∨ H.next ≤ k') ∧ k' < H'.next ∧ Keeps (fun j => j ≠ k) H H') ?_ (n := s)
    ⟨rfl, rfl, 0, k, rfl, by omega, F, Nat.le_refl _, by simpa [fixS] using h, .inl rfl, hk, Keeps.refl⟩
  rintro m t0 _ _ _ H2 ⟨rfl, rfl, i, k2, rfl, hi, F2, n2, B2, hk2, hk2', K2⟩
  intros
  unfold B39_0
  rw [bin_lss, oS, condW_bool]
  refine ⟨fun hlt => ?_, fun hge => ?_⟩
  · have hlt : i < s := by have := of_decide_eq_true hlt; omega
    have hb : IntKind.u8.wrap ((IntKind.u64.wrap n).fdiv (2 ^ (min (8 * (i : Int)).toNat 64))) = byteAt n i := by
      rw [u8_wrap, show (8 * (i : Int)).toNat = 8 * i by omega, Nat.min_eq_left (by omega), Int.fdiv_eq_ediv_of_nonneg _ (Int.le_of_lt (Int.pow_pos (by decide))), u64_wrap]
      exact byteAt_wrap n (by omega)
    rw [cv_2_114, oS, bin_mul, oS, wrap_i64 (by omega) (by omega), shr_114, if_neg (by omega), oS, cv_114_5, oS, hb, bs_27, o2S]
    obtain ⟨a1, a2, a3, F3⟩ := F2.newCells [AV.int .u8 (byteAt n i)]
    have hfm := first_of (E := E) (H := newCells H2 [AV.int .u8 (byteAt n i)]) (cap := 1) (ex := true) (ms := [byteAt n i]) a1
    obtain ⟨r, H4, e1, e2, e3, e4, F4⟩ := app_bytes (E := E) F3 (B2.keep fun all pre hg => a2 _ _ _ hg) hfm (by simp) (by rw [List.length_append, fixS_length]; simp only [List.length_cons, List.length_nil]; omega)
    have e1 : appendA Try.prog E (newCells H2 [AV.int .u8 (byteAt n i)]) 27 t0 27 (.slc (.new H2.next) 0 1 1 true 1) = some (r, H4) := e1
    rw [e1, o2S, bin_add, oS, wrap_i64 (by omega) (by omega)]
    refine ⟨m - 1, by omega, rfl, rfl, rfl, i + 1, (newCells H2 [AV.int .u8 (byteAt n i)]).next, by simp, by omega, F4, by omega, ?_, .inr ?_, ?_, ?_⟩
    · have : fixS n (i + 1) = fixS n i ++ [byteAt n i] := by simp [fixS, List.range_succ]
      rw [this, ← List.append_assoc]
      exact e2
    · rw [a3]; omega
    · rw [e4]; omega
    · have K24 : Keeps (fun j => j ≠ k2) H2 H4 := Keeps.trans (Keeps.of a2) e3 F2 (fun j _ hj => hj)
      exact Keeps.trans K2 K24 F (fun j hj h => show j ≠ k2 by have : j ≠ k := h; omega)
  · have hge : ¬ (i : Int) < s := of_decide_eq_false hge
    obtain rfl : i = s := by omega
    exact ⟨k2, B2, hk2, hk2', K2⟩

/-- What a switch has behind its width. -/
theorem j13_1 {x : In} (ho : x.Ok) {k1 kb m : Nat} {H1 : AHeap} (F1 : Fine H1) (hg : H1.get k1 = some (.cells x.cells true [])) (hA : ArmsAt E (fun j => j < m) H1 x.av x.arms) (hk1 : k1 < m) (hm : m ≤ kb) (B1 : Bs H1 b bs kb) (h0 : bs ≠ []) (hl : bs.length < 2 ^ 20) (hlen : x.op = 49 → x.arms.length ≤ 65535)
    {Q : AV → AHeap → Prop} (hQ : ∀ r k' H', Bs H' r (bs ++ if x.op = 49 then fixS x.arms.length 2 ++ armsB x.arms ++ fixS x.b 4 else []) k' → m ≤ k' → Keeps (fun j => j < m) H1 H' → Q (.tup [r, .int .i64 0]) H')
    {x0 x2 x3 x4 x5 x7 x8 x9 x10 x11 x12 x13 x14 x15 x16 x17 x18 x19 x20 x21 x22 x23 x24 x25 x26 x27 x28 x29 x30 x31 x32 x33 x34 x35 x36 x37 x38 x39 x40 x41 x45 x46 x47 x48 x49 x50 x51 x52 x53 x54 x55 x56 x57 x58 x59 x60 x61 x62 x63 x64 x65 x66 x67 x68 x69 x70 x71 x72 x73 x74 x75 x76 x77 : AV} :
    J13_1 E w0 Q x0 (.ptr (.new k1) 0) x2 x3 x4 x5 b x7 x8 x9 x10 x11 x12 x13 x14 x15 x16 x17 x18 x19 x20 x21 x22 x23 x24 x25 x26 x27 x28 x29 x30 x31 x32 x33 x34 x35 x36 x37 x38 x39 x40 x41 x45 x46 x47 x48 x49 x50 x51 x52 x53 x54 x55 x56 x57 x58 x59 x60 x61 x62 x63 x64 x65 x66 x67 x68 x69 x70 x71 x72 x73 x74 x75 x76 x77 H1 := by
  unfold J13_1
  have hkl := B1.lt F1 h0
  obtain ⟨l0, l1, l2, l3, l4⟩ := In.loads (E := E) hg
  simp only [fa_24_0, fa_24_3, Nat.add_zero, Nat.zero_add, oS, l0, eqv_5]
  rw [condW_bool]
  refine ⟨fun h49 => ?_, fun h49 => ?_⟩
  · have h49 : x.op = 49 := by simpa using h49
    have hn := hlen h49
    simp only [if_pos h49] at hQ
    simp only [l3, oS, hA.len]
    refine (putR_ok F1 B1 hkl (s := 2) (by omega) (by omega)).use ?_
    rintro v2 H2 ⟨k2, B2, hk2, hk2', K2⟩ F2 n2
    have K2' : Keeps (fun j => j < m) H1 H2 := K2.less fun j hj => show j ≠ kb by have : j < m := hj; omega
    refine loop13_0 (I := fun n t1 t6 t7 H' => t1 = .ptr (.new k1) 0 ∧ ∃ (i k' : Nat) (done : List Int), t7 = .int .i64 (i : Int) ∧ i + n = x.arms.length ∧ Fine H' ∧ H2.next ≤ H'.next ∧ Bs H' t6 (bs ++ fixS x.arms.length 2 ++ done) k' ∧ m ≤ k' ∧ k' < H'.next ∧ done.length = 12 * i ∧ done ++ armsB (x.arms.drop i) = armsB x.arms ∧ Keeps (fun j => j < m) H1 H') ?_ (n := x.arms.length)
      ⟨rfl, 0, k2, [], rfl, by omega, F2, Nat.le_refl _, by simpa using B2, by omega, hk2', rfl, rfl, K2'⟩
    rintro n _ t6 _ H3 ⟨rfl, i, k3, done, rfl, hi, F3, n3, B3, hk3, hk3', hd, hdone, K3⟩
    intros
    unfold B13_0
    have g3 := K3 _ _ _ hk1 hg
    have A3 := hA.keep K3
    obtain ⟨m0, m1, m2, m3, m4⟩ := In.loads (E := E) g3
    simp only [fa_24_3, fa_24_2, Nat.zero_add, oS, m3, hA.len, bin_lss]
    rw [condW_bool]
    have hbl : (bs ++ fixS x.arms.length 2 ++ done).length < 2 ^ 32 := by rw [List.length_append, List.length_append, fixS_length]; omega
    refine ⟨fun hlt => ?_, fun hge => ?_⟩
    · have hlt : i < x.arms.length := by have := of_decide_eq_true hlt; omega
      obtain ⟨y, hy⟩ : ∃ y, y = x.arms[i] := ⟨_, rfl⟩
      have hyj : x.arms[i]? = some y := by rw [hy]; exact List.getElem?_eq_getElem hlt
      obtain ⟨o, q, e1, e2, e3, e4⟩ := A3.at hyj
      have e3 : loadV Try.prog E H3 2 (.ptr o q) = some (.int .i64 y.1) := by rw [ld_2, e3]
      simp only [e1, oS, fa_49_0, Nat.add_zero, e3]
      refine (putR_ok F3 B3 hk3' (s := 8) (by omega) (by omega)).use ?_
      rintro v4 H4 ⟨k4, B4, hk4, hk4', K4⟩ F4 n4
      have K4' : Keeps (fun j => j < m) H1 H4 := Keeps.trans K3 K4 F1 fun j _ hj => show j ≠ k3 by have : j < m := hj; omega
      have g4 := K4' _ _ _ hk1 hg
      obtain ⟨p0, p1, p2, p3, p4⟩ := In.loads (E := E) g4
      obtain ⟨o', q', e1', _, _, e4'⟩ := (hA.keep K4').at hyj
      have e4' : loadV Try.prog E H4 3 (.ptr o' (q' + 1)) = some (.int .i64 y.2) := by rw [ld_3, e4']
      simp only [p3, oS, e1', fa_49_1, e4']
      refine (putR_ok F4 B4 hk4' (s := 4) (by omega) (by rw [List.length_append, fixS_length]; omega)).use ?_
      rintro v5 H5 ⟨k5, B5, hk5, hk5', K5⟩ F5 n5
      have K5' : Keeps (fun j => j < m) H1 H5 := Keeps.trans K4' K5 F1 fun j _ hj => show j ≠ k4 by have : j < m := hj; omega
      rw [bin_add, oS, wrap_i64 (by omega) (by omega)]
      refine ⟨n - 1, by omega, rfl, rfl, i + 1, k5, done ++ (fixS y.1 8 ++ fixS y.2 4), by simp, by omega, F5, by omega, ?_, by omega, hk5', by simp only [List.length_append, fixS_length]; omega, ?_, K5'⟩
      · have : bs ++ fixS x.arms.length 2 ++ (done ++ (fixS y.1 8 ++ fixS y.2 4)) = bs ++ fixS x.arms.length 2 ++ done ++ fixS y.1 8 ++ fixS y.2 4 := by simp only [List.append_assoc]
        rw [this]; exact B5
      · rw [← hdone, List.drop_eq_getElem_cons hlt, ← hy]
        simp only [armsB, List.flatMap_cons, armB, List.append_assoc]
    · have hge : ¬ (i : Int) < x.arms.length := of_decide_eq_false hge
      rw [List.drop_eq_nil_of_le (by omega)] at hdone
      simp only [armsB, List.flatMap_nil, List.append_nil] at hdone
      simp only [m2, oS]
      refine (putR_ok F3 B3 hk3' (s := 4) (by omega) (by omega)).use ?_
      rintro v4 H4 ⟨k4, B4, hk4, hk4', K4⟩ F4 n4
      have K4' : Keeps (fun j => j < m) H1 H4 := Keeps.trans K3 K4 F1 fun j _ hj => show j ≠ k3 by have : j < m := hj; omega
      refine P13_17_ok ?_
      unfold P13_17
      have hB : bs ++ (fixS x.arms.length 2 ++ armsB x.arms ++ fixS x.b 4) = bs ++ fixS x.arms.length 2 ++ done ++ fixS x.b 4 := by rw [hdone]; simp only [armsB, List.append_assoc]
      rw [hB] at hQ
      exact hQ _ k4 _ B4 (by omega) K4'
  · have h49 : ¬ x.op = 49 := by simpa using h49
    simp only [if_neg h49, List.append_nil] at hQ
    refine P13_17_ok ?_
    unfold P13_17
    exact hQ _ kb _ B1 hm Keeps.refl

theorem isS_some {x : In} (h : isS x = true) : ∃ l, lay x.op = some l ∧ (x.op = 49 → x.arms.length ≤ 65535) := by
  unfold isS at h
  cases hl : lay x.op with
  | none => rw [hl] at h; simp at h
  | some l =>
    refine ⟨l, rfl, fun h49 => ?_⟩
    rw [if_pos h49] at h
    simp only [Bool.and_eq_true, decide_eq_true_eq] at h
    exact h.2.1.1

theorem encodeR_ok (F : Fine H) {x : In} (ho : x.Ok) (ha : ArmsAt E All H x.av x.arms) : FnX Try.prog E w0 13 [.agg x.cells] H fun v H' =>
    Stays H H' ∧ ∃ r k', v = .tup [r, .int .i64 (if isS x then 0 else 120)] ∧ Bs H' r (if isS x then encB x else []) k' ∧ H.next ≤ k' := by
  refine V13_ok ?_
  unfold V13
  have hcl : AV.cells (.agg x.cells) = x.cells := rfl
  obtain ⟨a1, a2, a3, F1⟩ := F.newCells x.cells
  rw [wW, hcl]
  generalize hH1 : newCells H x.cells = H1 at *
  rw [(In.loads (E := E) a1).2.2.2.2, oS]
  refine (is_ok F1 ho (ha.keep (Keeps.of a2))).use ?_
  rintro v2 H2 ⟨rfl, s2⟩ F2 n2
  rw [un_not, oS, condW_bool]
  refine ⟨fun h => ?_, fun h => ?_⟩
  · have h : isS x = false := by simpa using h
    simp only [h, Bool.false_eq_true, if_false]
    exact ⟨stays_trans a2 s2, _, H.next, rfl, .inl ⟨rfl, rfl⟩, Nat.le_refl _⟩
  have h : isS x = true := by simpa using h
  obtain ⟨l, hl, hlen⟩ := isS_some h
  have hsz : ∀ f ∈ l, 1 ≤ f.size ∧ f.size ≤ 8 := by have := lay_size (op := x.op); rw [hl] at this; exact this
  have hll : l.length ≤ 2 := by have := lay_length (op := x.op); rw [hl] at this; exact this
  have g2 := s2 _ _ _ a1
  have s02 := stays_trans a2 s2
  simp only [h, if_true, fa_24_0, fa_24_1, oS, Nat.add_zero, (In.loads (E := E) g2).1]
  refine (parts_ok F2).use ?_
  rintro v3 H3 ⟨lv, rfl, pl, s3⟩ F3 n3
  rw [hl] at pl
  simp only [Option.getD_some] at pl
  have g3 := s3 _ _ _ g2
  have s03 := stays_trans s02 s3
  simp only [ex0, ex1, oS, (In.loads (E := E) g3).1, bs_27, o2S]
  obtain ⟨b1, b2, b3, F4⟩ := F3.newCells [AV.int .u8 x.op]
  generalize hH4 : newCells H3 [AV.int .u8 x.op] = H4 at *
  have s04 := stays_trans s03 b2
  have g4 := b2 _ _ _ g3
  have B4 : Bs H4 (.slc (.new H3.next) 0 1 1 true 1) [x.op] H3.next := .inr ⟨1, true, _, [], rfl, b1, rfl, Nat.le_refl _⟩
  have pl4 : PartsAt (fun j => j < H3.next) H4 lv l := (pl.less F3 fun j hj _ => hj).keep (Keeps.of b2)
  have A4 : ArmsAt E (fun j => j < H3.next) H4 x.av x.arms := (ha.less F fun j hj _ => show j < H3.next by omega).keep (Keeps.of s04)
  have h1m : H.next < H3.next := by omega
  have hk4 : H3.next < H4.next := by omega
  have fin : ∀ {H5 : AHeap} {r : AV} {bs : List Int} {k' : Nat}, Fine H5 → Keeps (fun j => j < H3.next) H4 H5 → Bs H5 r bs k' → H3.next ≤ k' → bs ≠ [] → bs.length < 2 ^ 20 → bs = x.op :: fldB x 0 l → ∀ (x0 x2 x3 x4 x5 x7 x8 x9 x10 x11 x12 x13 x14 x15 x16 x17 x18 x19 x20 x21 x22 x23 x24 x25 x26 x27 x28 x29 x30 x31 x32 x33 x34 x35 x36 x37 x38 x39 x40 x41 x45 x46 x47 x48 x49 x50 x51 x52 x53 x54 x55 x56 x57 x58 x59 x60 x61 x62 x63 x64 x65 x66 x67 x68 x69 x70 x71 x72 x73 x74 x75 x76 x77 : AV), J13_1 E w0 (fun v H' => Stays H H' ∧ ∃ r k', v = .tup [r, .int .i64 0] ∧ Bs H' r (encB x) k' ∧ H.next ≤ k') x0 (.ptr (.new H.next) 0) x2 x3 x4 x5 r x7 x8 x9 x10 x11 x12 x13 x14 x15 x16 x17 x18 x19 x20 x21 x22 x23 x24 x25 x26 x27 x28 x29 x30 x31 x32 x33 x34 x35 x36 x37 x38 x39 x40 x41 x45 x46 x47 x48 x49 x50 x51 x52 x53 x54 x55 x56 x57 x58 x59 x60 x61 x62 x63 x64 x65 x66 x67 x68 x69 x70 x71 x72 x73 x74 x75 x76 x77 H5 := by
    intro H5 r bs k' F5 K5 B5 hk5 hb0 hbl hbs
    intros
    have hE : encB x = bs ++ if x.op = 49 then fixS x.arms.length 2 ++ armsB x.arms ++ fixS x.b 4 else [] := by unfold encB; rw [hl, hbs]; rfl
    rw [hE]
    refine j13_1 ho F5 (K5 _ _ _ h1m g4) (A4.keep K5) h1m hk5 B5 hb0 hbl hlen fun r k' H' B hk K => ⟨?_, r, k', rfl, B, by omega⟩
    intro j al pr hj
    have := F.lt hj
    exact K _ _ _ (show j < H3.next by omega) (K5 _ _ _ (show j < H3.next by omega) (s04 _ _ _ hj))
  have cells : (In.loads (E := E) g4).2.1 = (In.loads (E := E) g4).2.1 := rfl
  rw [pl4.len, oS, bin_gtr, oS]
  match l, hll with
  | [], _ =>
    simp only [List.length_nil, show decide (((0 : Nat) : Int) > 0) = false from rfl, cF]
    unfold J13_0
    rw [pl4.len, oS, bin_gtr, oS]
    simp only [List.length_nil, show decide (((0 : Nat) : Int) > 1) = false from rfl, cF]
    exact fin F4 Keeps.refl B4 (Nat.le_refl _) (by simp) (by simp) rfl _ _ _ _ _ _ _ _ _ _ _ _ _ _ _ _ _ _ _ _ _ _ _ _ _ _ _ _ _ _ _ _ _ _ _ _ _ _ _ _ _ _ _ _ _ _ _ _ _ _ _ _ _ _ _ _ _ _ _ _ _ _ _ _ _ _ _ _ _ _ _ _ _
  | [f0], _ =>
    have hf0 := hsz f0 (by simp)
    obtain ⟨k0, i0, e1, _, e3⟩ := pl4.at (E := E) (j := 0) (f := f0) rfl
    have e1 : indexAtA Try.prog 69 lv (.int .i64 0) = some (.ptr (.new k0) i0) := e1
    simp only [List.length_cons, List.length_nil, show decide (((0 + 1 : Nat) : Int) > 0) = true from rfl, cT, (In.loads (E := E) g4).2.1, oS, e1, fa_74_0, Nat.add_zero, ld_3, e3, true_and, and_true]
    refine (putR_ok F4 B4 hk4 hf0.2 (by simp only [List.length_cons, List.length_nil]; omega)).use ?_
    rintro v5 H5 ⟨k5, B5, hk5, hk5', K5⟩ F5 n5
    have K5' : Keeps (fun j => j < H3.next) H4 H5 := K5.less fun j (hj : j < H3.next) => show j ≠ H3.next by omega
    unfold J13_0
    rw [pl4.len]
    simp only [oS, bin_gtr, List.length_cons, List.length_nil, show decide (((0 + 1 : Nat) : Int) > 1) = false from rfl, cF, true_and, and_true]
    exact fin F5 K5' B5 (by omega) (by simp) (by simp only [List.length_append, List.length_cons, List.length_nil, fixS_length]; omega) (by simp [fldB, In.num]) _ _ _ _ _ _ _ _ _ _ _ _ _ _ _ _ _ _ _ _ _ _ _ _ _ _ _ _ _ _ _ _ _ _ _ _ _ _ _ _ _ _ _ _ _ _ _ _ _ _ _ _ _ _ _ _ _ _ _ _ _ _ _ _ _ _ _ _ _ _ _ _ _
  | [f0, f1], _ =>
    have hf0 := hsz f0 (by simp)
    have hf1 := hsz f1 (by simp)
    obtain ⟨k0, i0, e1, _, e3⟩ := pl4.at (E := E) (j := 0) (f := f0) rfl
    have e1 : indexAtA Try.prog 69 lv (.int .i64 0) = some (.ptr (.new k0) i0) := e1
    simp only [List.length_cons, List.length_nil, show decide (((0 + 1 + 1 : Nat) : Int) > 0) = true from rfl, cT, (In.loads (E := E) g4).2.1, oS, e1, fa_74_0, Nat.add_zero, ld_3, e3, true_and, and_true]
    refine (putR_ok F4 B4 hk4 hf0.2 (by simp only [List.length_cons, List.length_nil]; omega)).use ?_
    rintro v5 H5 ⟨k5, B5, hk5, hk5', K5⟩ F5 n5
    have K5' : Keeps (fun j => j < H3.next) H4 H5 := K5.less fun j (hj : j < H3.next) => show j ≠ H3.next by omega
    obtain ⟨k1, i1, c1, _, c3⟩ := (pl4.keep K5').at (E := E) (j := 1) (f := f1) rfl
    have c1 : indexAtA Try.prog 69 lv (.int .i64 1) = some (.ptr (.new k1) i1) := c1
    have g5 := K5' _ _ _ h1m g4
    unfold J13_0
    rw [pl4.len]
    simp only [oS, bin_gtr, List.length_cons, List.length_nil, show decide (((0 + 1 + 1 : Nat) : Int) > 1) = true from rfl, cT, fa_24_2, Nat.zero_add, (In.loads (E := E) g5).2.2.1, c1, fa_74_0, Nat.add_zero, ld_3, c3, true_and, and_true]
    refine (putR_ok F5 B5 hk5' hf1.2 (by simp only [List.length_append, List.length_cons, List.length_nil, fixS_length]; omega)).use ?_
    rintro v6 H6 ⟨k6, B6, hk6, hk6', K6⟩ F6 n6
    have K6' : Keeps (fun j => j < H3.next) H4 H6 := Keeps.trans K5' K6 F4 fun j _ (hj : j < H3.next) => show j ≠ k5 by omega
    exact fin F6 K6' B6 (by omega) (by simp) (by simp only [List.length_append, List.length_cons, List.length_nil, fixS_length]; omega) (by simp [fldB, In.num]) _ _ _ _ _ _ _ _ _ _ _ _ _ _ _ _ _ _ _ _ _ _ _ _ _ _ _ _ _ _ _ _ _ _ _ _ _ _ _ _ _ _ _ _ _ _ _ _ _ _ _ _ _ _ _ _ _ _ _ _ _ _ _ _ _ _ _ _ _ _ _ _ _
  | _ :: _ :: _ :: _, h => exact absurd h (by simp)

theorem fldB_cons (x : In) (i : Nat) (f : Fd) (l : List Fd) : (fldB x i (f :: l)).length = f.size + (fldB x (i + 1) l).length := by
  simp only [fldB, List.length_append, fixS_length]

theorem sizeR_ok (F : Fine H) {x : In} (ho : x.Ok) (ha : ArmsAt E All H x.av x.arms) : FnX Try.prog E w0 16 [.agg x.cells] H fun v H' =>
    Stays H H' ∧ v = .int .i64 (if isS x then ((encB x).length : Int) else 0) := by
  refine V16_ok ?_
  unfold V16
  have hcl : AV.cells (.agg x.cells) = x.cells := rfl
  obtain ⟨a1, a2, a3, F1⟩ := F.newCells x.cells
  rw [wW, hcl]
  generalize hH1 : newCells H x.cells = H1 at *
  rw [(In.loads (E := E) a1).2.2.2.2, oS]
  refine (is_ok F1 ho (ha.keep (Keeps.of a2))).use ?_
  rintro v2 H2 ⟨rfl, s2⟩ F2 n2
  rw [un_not, oS, condW_bool]
  refine ⟨fun h => ?_, fun h => ?_⟩
  · have h : isS x = false := by simpa using h
    simp only [h, Bool.false_eq_true, if_false]
    exact ⟨stays_trans a2 s2, by trivial⟩
  have h : isS x = true := by simpa using h
  obtain ⟨l, hl, hlen⟩ := isS_some h
  have hsz : ∀ f ∈ l, 1 ≤ f.size ∧ f.size ≤ 8 := by have := lay_size (op := x.op); rw [hl] at this; exact this
  have hll : l.length ≤ 2 := by have := lay_length (op := x.op); rw [hl] at this; exact this
  have g2 := s2 _ _ _ a1
  have s02 := stays_trans a2 s2
  simp only [h, if_true, fa_24_0, fa_24_1, oS, Nat.add_zero, (In.loads (E := E) g2).1]
  refine (parts_ok F2).use ?_
  rintro v3 H3 ⟨lv, rfl, pl, s3⟩ F3 n3
  rw [hl] at pl
  simp only [Option.getD_some] at pl
  have g3 := s3 _ _ _ g2
  have s03 := stays_trans s02 s3
  simp only [ex0, ex1, oS]
  have hfl := fldB_length x 0 l fun f hf => (hsz f hf).2
  refine loop16_0 (I := fun n t1 t3 t5 t6 H' => t1 = .ptr (.new H.next) 0 ∧ lv = t3 ∧ H' = H3 ∧ ∃ (i c : Nat), t6 = .int .i64 (i : Int) ∧ i + n = l.length ∧ t5 = .int .i64 (c : Int) ∧ c + (fldB x i (l.drop i)).length = 1 + (fldB x 0 l).length) ?_ (n := l.length)
    ⟨rfl, rfl, rfl, 0, 1, rfl, by omega, rfl, rfl⟩
  rintro n _ _ _ _ H4 ⟨rfl, rfl, rfl, i, c, rfl, hi, rfl, hc⟩
  intros
  unfold B16_0
  rw [pl.len, oS, bin_lss, oS, condW_bool]
  refine ⟨fun hlt => ?_, fun hge => ?_⟩
  · have hlt : i < l.length := by have := of_decide_eq_true hlt; omega
    obtain ⟨f, hf⟩ : ∃ f, f = l[i] := ⟨_, rfl⟩
    obtain ⟨k0, i0, e1, _, e3⟩ := pl.at (E := E) (j := i) (f := f) (by rw [hf]; exact List.getElem?_eq_getElem hlt)
    have hf8 := (hsz f (by rw [hf]; exact List.getElem_mem _)).2
    rw [List.drop_eq_getElem_cons hlt, ← hf, fldB_cons] at hc
    rw [e1, oS, fa_74_0, oS, Nat.add_zero, ld_3, e3, oS, bin_add, oS, wrap_i64 (by omega) (by omega), bin_add, oS, wrap_i64 (by omega) (by omega)]
    exact ⟨n - 1, by omega, rfl, rfl, rfl, rfl, i + 1, c + f.size, by simp, by omega, by simp, by omega⟩
  · have hge : ¬ (i : Int) < l.length := of_decide_eq_false hge
    rw [List.drop_eq_nil_of_le (by omega)] at hc
    simp only [fldB, List.length_nil, Nat.add_zero] at hc
    rw [fa_24_0, oS, Nat.add_zero, (In.loads (E := E) g3).1, oS, eqv_5, oS, condW_bool]
    have hE : (encB x).length = c + (if x.op = 49 then fixS x.arms.length 2 ++ armsB x.arms ++ fixS x.b 4 else []).length := by
      unfold encB; rw [hl, List.length_append, List.length_cons, Option.getD_some, hc, Nat.add_comm 1]
    refine ⟨fun h49 => ?_, fun h49 => ?_⟩
    · have h49 : x.op = 49 := by simpa using h49
      have hn := hlen h49
      rw [if_pos h49, List.length_append, List.length_append, fixS_length, fixS_length, armsB_length] at hE
      rw [bin_add, oS, wrap_i64 (by omega) (by omega), fa_24_3, oS, Nat.zero_add, (In.loads (E := E) g3).2.2.2.1, oS, ha.len, oS, bin_mul, oS, wrap_i64 (by omega) (by omega), bin_add, oS, wrap_i64 (by omega) (by omega), bin_add, oS, wrap_i64 (by omega) (by omega), hE]
      refine ⟨s03, ?_⟩
      congr 1
      omega
    · have h49 : ¬ x.op = 49 := by simpa using h49
      rw [if_neg h49, List.length_nil] at hE
      rw [hE]
      exact ⟨s03, rfl⟩
end
end Go.Proofs.Ytcboaonbfgjmgaa.op
