/-
  OpsWrites: its law.
-/
import Derived.Test.YtcboaonbfgjmgaaOk
open Go.Proofs Go Go.Am
namespace Go.Proofs.Ytcboaonbfgjmgaa.op
open Go.Proofs.Ytcboaonbfgjmgaa.vb Go.Proofs.Ytcboaonbfgjmgaa.vr Go.Proofs.Ytcboaonbfgjmgaa.vw
set_option linter.unusedVariables false
set_option linter.unusedSimpArgs false
set_option maxRecDepth 100000

variable {E : Env} {w0 : World}

theorem works_ok {H : AHeap} : FnX Try.prog E w0 11 [] H fun v H' => v = .bool true := by
  have h : (callFA Try.prog (fun _ => none) noOv 200 11 [] AHeap.empty).map (·.1) = some (.bool true) := by kernel_rfl
  cases hr : callFA Try.prog (fun _ => none) noOv 200 11 [] AHeap.empty with
  | none => rw [hr] at h; cases h
  | some r =>
    obtain ⟨v, H1⟩ := r
    rw [hr] at h
    simp only [Option.map_some, Option.some.injEq] at h
    subst h
    refine (fnX_pure vb.mixed hr ?_ ?_).mono fun v' H' h => h.1
    · intro ρ vs h
      exact h
    · intro ρ ρ' u h
      exact h

theorem fldB_av (x : In) (av : AV) : ∀ (l : List Fd) (i : Nat), fldB { x with av := av } i l = fldB x i l
  | [], _ => rfl
  | f :: l, i => by simp only [fldB, fldB_av x av l]; rfl
theorem fldOk_av (x : In) (av : AV) : ∀ (l : List Fd) (i : Nat), fldOk { x with av := av } i l = fldOk x i l
  | [], _ => rfl
  | f :: l, i => by simp only [fldOk, fldOk_av x av l]; rfl
theorem isS_av (x : In) (av : AV) : isS { x with av := av } = isS x := by unfold isS; rw [fldOk_av]
theorem encB_av (x : In) (av : AV) : encB { x with av := av } = encB x := by unfold encB; rw [fldB_av]

theorem encB_short {x : In} (h : isS x = true) : (encB x).length < 2 ^ 30 := by
  obtain ⟨l, hl, hlen⟩ := isS_some h
  have hsz : ∀ f ∈ l, f.size ≤ 8 := by have := lay_size (op := x.op); rw [hl] at this; exact fun f hf => (this f hf).2
  have hll : l.length ≤ 2 := by have := lay_length (op := x.op); rw [hl] at this; exact this
  have := fldB_length x 0 l hsz
  unfold encB
  rw [hl, List.length_append, List.length_cons, Option.getD_some]
  split
  · rename_i h49
    have := hlen h49
    rw [List.length_append, List.length_append, fixS_length, fixS_length, armsB_length]
    omega
  · simp only [List.length_nil]; omega

theorem box24 {H : AHeap} (F : Fine H) {cs : List AV} (hl : cs.length = 4) (hs : cs.all Am.scalar = true) {K : AV → AHeap → Prop} (hK : ∀ H', Fine H' → Stays H H' → H'.next = H.next + 1 → H'.get H.next = some (.cells cs true []) → K (.ptr (.new H.next) 0) H') :
    optW (zeroOf Try.prog 24) fun z => withW (.ptr (.new H.next) 0) (newCells H (AV.cells z)) fun p H1 => storeW Try.prog H1 24 p (.agg cs) fun _ H2 => K p H2 := by
  have hz : AV.cells (.agg [(.int .u8 0), (.int .i64 0), (.int .i64 0), .nilSlc]) = [(.int .u8 0), (.int .i64 0), (.int .i64 0), .nilSlc] := rfl
  rw [zero_24, oS, wW, hz]
  obtain ⟨a1, a2, a3, F1⟩ := F.newCells [AV.int .u8 0, .int .i64 0, .int .i64 0, .nilSlc]
  obtain ⟨H2, c1, c2, c3, c4, F2⟩ := F1.stores a1 (n := 0) (vs := cs) (by intro e; rw [e] at hl; simp at hl) (by simp [hl]) hs
  rw [setMany_all (by rw [hl]; rfl)] at c2
  have hsz : sizeA Try.prog 24 = some (AV.cells (.agg cs)).length := by
    match cs, hl with
    | [a, b, c, d], _ => exact sz_24
  refine storesW hsz c1 ?_
  exact hK H2 F2 (fun k all pre hk => c3 _ _ _ (by have := F.lt hk; omega) (a2 _ _ _ hk)) (by omega) c2

theorem writes_ok {H : AHeap} {x : In} (ho : x.Ok) (ha : ∀ H', ArmsAt E All H' x.av x.arms) (hsc : Am.scalar x.av = true) : FnX Try.prog E w0 3 [.agg x.cells] H fun v _ => v = .bool true := by
  refine fnX_fine fun F => ?_
  refine V3_ok ?_
  unfold V3
  have hcl : AV.cells (.agg x.cells) = x.cells := rfl
  obtain ⟨a1, a2, a3, F1⟩ := F.newCells x.cells
  rw [wW, hcl]
  generalize hH1 : newCells H x.cells = H1 at *
  obtain ⟨l0, l1, l2, l3, l4⟩ := In.loads (E := E) a1
  have hsh := ho.short
  simp only [fa_24_3, fa_24_0, Nat.zero_add, Nat.add_zero, oS, l3, (ha H1).len, bin_gtr]
  rw [condW_bool]
  refine ⟨fun _ => works_ok, fun hsz => ?_⟩
  have hsz : x.arms.length ≤ 70000 := by have : ¬ (x.arms.length : Int) > 70000 := of_decide_eq_false hsz; omega
  rw [l4, oS]
  refine (lent_ok F1 ho (by omega) (ha H1)).use ?_
  rintro v2 H2 ⟨av', rfl, L2, s2⟩ F2 n2
  obtain ⟨y, hy⟩ : ∃ y : In, y = { x with av := av' } := ⟨_, rfl⟩
  have hyc : (AV.agg [.int .u8 x.op, .int .i64 x.a, .int .i64 x.b, av']) = .agg y.cells := by rw [hy]; rfl
  have hyo : y.Ok := by rw [hy]; exact ⟨ho.op, ho.a, ho.b, ho.arms, ho.short⟩
  have hya : y.arms = x.arms := by rw [hy]
  have hyv : y.av = av' := by rw [hy]
  have hyS : isS y = isS x := by rw [hy]; exact isS_av x av'
  have hyB : encB y = encB x := by rw [hy]; exact encB_av x av'
  rw [hyc]
  refine box24 F2 (by rfl) (by
    obtain ⟨k, cap, ex, pre, e, _⟩ := L2
    rw [hy, e]; rfl) fun H3 F3 s3 n3 g3 => ?_
  have q3 : H3.get H.next = some (.cells x.cells true []) := s3 _ _ _ (s2 _ _ _ a1)
  have L3 : Lent All H3 y.av y.arms := by rw [hyv, hya]; exact (L2.keep (Keeps.of s3)).less F3 fun _ _ _ => trivial
  rw [(In.loads (E := E) q3).2.2.2.2, oS]
  refine (encodeR_ok F3 ho (ha H3)).use ?_
  rintro v4 H4 ⟨s4, r4, k4, rfl, B4, hk4⟩ F4 n4
  simp only [ex0, ex1, oS, (In.loads (E := E) (s4 _ _ _ g3)).2.2.2.2]
  refine (encode_ok F4 hyo (L3.keep (Keeps.of s4)).toArms).use ?_
  rintro v5 H5 ⟨s5, r5, k5, rfl, B5, hk5, _⟩ F5 n5
  have s35 := stays_trans s4 s5
  have B45 := B4.keep fun all pre hg => s5 _ _ _ hg
  rw [hyS, hyB] at B5
  rw [hyS]
  have g5 := s35 _ _ _ g3
  have q5 := s35 _ _ _ q3
  simp only [ex0, ex1, oS, B5.text, B45.text, true_and, nev_9, beq_self_eq_true, Bool.not_true, wB, bff, vT, nev_28, bne_self_eq_false, pB, Bool.false_eq_true, if_false, (In.loads (E := E) g5).2.2.2.2, gT]
  refine (size_ok F5 hyo (L3.keep (Keeps.of s35)).toArms).use ?_
  rintro v6 H6 ⟨s6, rfl⟩ F6 n6
  have q6 := s6 _ _ _ q5
  simp only [true_and, (In.loads (E := E) q6).2.2.2.2, (In.loads (E := E) q5).2.2.2.2, vT, oS, gT]
  refine (sizeR_ok F6 ho (ha H6)).use ?_
  rintro v7 H7 ⟨s7, rfl⟩ F7 n7
  have q7 := s7 _ _ _ q6
  rw [hyS, hyB]
  simp only [true_and, vT, oS, nev_3, bne_self_eq_false, pB, Bool.false_eq_true, if_false, wB, bff, fa_24_0, Nat.add_zero, (In.loads (E := E) q7).1, gT]
  refine (name_ok ho.op.1 ho.op.2 F7).use ?_
  rintro v8 H8 ⟨rfl, s8⟩ F8 n8
  have q8 := s8 _ _ _ q7
  simp only [true_and, vT, oS, (In.loads (E := E) q8).1, (In.loads (E := E) q7).1, gT]
  refine (nameR_ok ho.op.1 ho.op.2 F8).use ?_
  rintro v9 H9 ⟨rfl, s9⟩ F9 n9
  have s59 := stays_trans s6 (stays_trans s7 (stays_trans s8 s9))
  simp only [true_and, vT, oS, nev_9, beq_self_eq_true, Bool.not_true, pB, Bool.false_eq_true, if_false, cF]
  have B9 := B5.keep fun all pre hg => s59 _ _ _ hg
  have B49 := B45.keep fun all pre hg => s59 _ _ _ hg
  obtain ⟨N, hN⟩ : ∃ N, N = (if isS x = true then encB x else []).length := ⟨_, rfl⟩
  have s49 := stays_trans s5 s59
  have s39 := stays_trans s4 s49
  refine loop3_0 (I := fun n t1 t3 t4 t6 t8 H' => t1 = .ptr (.new H.next) 0 ∧ t3 = .ptr (.new H2.next) 0 ∧ r4 = t4 ∧ r5 = t6 ∧ ∃ i : Nat, t8 = .int .i64 (i : Int) ∧ i + n = N ∧ Fine H' ∧ Keeps (fun j => j < H4.next) H9 H' ∧
      (N = 0 ∨ ∃ cap ex all pre, r5 = .slc (.new k5) 0 N cap ex 1 ∧ H'.get k5 = some (.cells all true pre) ∧ N ≤ all.length)) ?_ (n := N)
    ⟨rfl, rfl, rfl, rfl, 0, rfl, by omega, F9, Keeps.refl, ?_⟩
  rotate_left
  · rcases B9 with ⟨_, h⟩ | ⟨cap, ex, all, pre, e, g, t, c⟩
    · exact .inl (by rw [hN, h]; rfl)
    · refine .inr ⟨cap, ex, all, pre, by rw [hN]; exact e, g, ?_⟩
      have := congrArg List.length t
      rw [List.length_take, bys_length] at this
      omega
  rintro n _ _ _ _ _ Ha ⟨rfl, rfl, rfl, rfl, i, rfl, hi, Fa, Ka, hr⟩
  intros
  unfold B3_0
  rw [B9.len, ← hN, oS, bin_lss, oS, condW_bool]
  have hNl : N < 2 ^ 40 := by
    rw [hN]
    split
    · rename_i h; have := encB_short h; omega
    · simp
  refine ⟨fun hlt => ?_, fun hge => ?_⟩
  · have hlt : i < N := by have := of_decide_eq_true hlt; omega
    obtain ⟨cap, ex, all, pre, e, g, hl⟩ := hr.resolve_left (by omega)
    obtain ⟨Hb, c1, c2, c3, c4, Fb⟩ := Fa.store g (n := i) (x := .int .u8 99) (by omega) rfl
    rw [e, ix_27, if_pos ⟨by omega, by omega⟩]
    simp only [oS, Nat.zero_add, Int.toNat_natCast, Nat.mul_one]
    refine storesW sz_5 c1 ?_
    rw [bin_add, oS, wrap_i64 (by omega) (by omega)]
    refine ⟨n - 1, by omega, rfl, rfl, rfl, rfl, rfl, i + 1, by simp, by omega, Fb, ?_, .inr ⟨cap, ex, _, _, rfl, c2, by rw [List.length_set]; exact hl⟩⟩
    exact Keeps.trans Ka (Keeps.but (X := fun j => j < H4.next) c3 fun j (hj : j < H4.next) => by omega) F9 fun _ _ h => h
  · have K3a : ∀ {j al pr}, H3.get j = some (.cells al true pr) → Ha.get j = some (.cells al true pr) := fun {j al pr} hg => Ka _ _ _ (show j < H4.next by have := F3.lt hg; omega) (s39 _ _ _ hg)
    have La : Lent All Ha y.av y.arms := L3.keep fun j al pr _ hg => K3a hg
    rw [(In.loads (E := E) (K3a g3)).2.2.2.2, oS]
    refine (encode_ok Fa hyo La.toArms).use ?_
    rintro v10 Hc ⟨sc, r10, k10, rfl, B10, hk10, _⟩ Fc nc
    rw [hyS, hyB] at B10
    have B4c : Bs Hc r4 (if isS x = true then encB x else []) k4 := by
      refine B4.keep fun all pre hg => sc _ _ _ (Ka _ _ _ (show k4 < H4.next from F4.lt hg) (s49 _ _ _ hg))
    simp only [ex0, ex1, oS, B10.text, B4c.text, eqv_9, beq_self_eq_true, wB, btt, vT, (In.loads (E := E) (sc _ _ _ (K3a g3))).2.2.2.2, (In.loads (E := E) (sc _ _ _ (K3a q3))).2.2.2.2, gT]
    refine (kept_ok Fc hyo (La.keep (Keeps.of sc)) (ha Hc) (by rw [hy]) (by rw [hy]) (by rw [hy]) hya).use ?_
    rintro v11 Hd ⟨rfl, sd⟩ Fd' nd
    simp only [pB, if_true, oS, wB, btt, gT]
    refine works_ok.use ?_
    rintro v12 He rfl _ _
    simp only [pB, if_true, oS]
end Go.Proofs.Ytcboaonbfgjmgaa.op
