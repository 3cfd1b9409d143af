/-
  Texts Fc Do Co Fd, as far as they are used.
-/
import Derived.Test.YtchnpgddpaonhaaUaz
import Derived.Test.YtchnpgddpaonhaaUay
section
open Go.Proofs Go Go.Am Go.Op
namespace Go.Proofs.Ytchnpgddpaonhaa.d
set_option linter.unusedVariables false
set_option linter.unusedSimpArgs false
set_option maxRecDepth 100000
section
variable {E : Env} {w0 : World}
theorem two1 (T : DSt) {k l : Nat} (h : k ≠ l) (z z' A B : DObj) : (((T.set k z).set l z').set k A).set l B = (T.set k A).set l B := by
  rw [DSt.set_in _ h, DSt.set_set]
theorem two2 (T : DSt) {k l : Nat} (h : k ≠ l) (z z' A B : DObj) : (((T.set k z).set l z').set l B).set k A = (T.set k A).set l B := by
  rw [DSt.set_set, DSt.set_in _ h]
theorem foldF_drop {bs : List Int} {j : Nat} {a b : Int} {s : Nat × Int} {f : Fld} {l : List Fld} (h : l[j]? = some f) : foldF bs j a b s (l.drop j) = foldF bs (j + 1) (if j = 0 then (rdS bs f s).1 else a) (if j = 0 then b else (rdS bs f s).1) (rdS bs f s).2 (l.drop (j + 1)) := by
  obtain ⟨hj, rfl⟩ := List.getElem?_eq_some_iff.1 h
  rw [List.drop_eq_getElem_cons hj, foldF]
theorem ops_Decode_own {bs : List Int} (hb : ∀ b ∈ bs, Byte b) (hl : bs.length < 2 ^ 30) {n : Int} {S : DSt} : DFn Try.prog E w0 false f_ops_Decode [bD bs, .int .i64 n] S fun v S' => ∃ t, v = datT (decT bs n) t ∧ Grw S t ((decT bs n).1.2.2.2.map armR) 2 S' := by
  refine V_ops_Decode_ok ?_
  unfold V_ops_Decode
  intro k4 a4 n4
  have h4 : Cel (S.set k4 ⟨4, [zC], a4⟩) k4 4 zC := Cel.new
  change optW _ _
  have le4 : S.le (S.set k4 ⟨4, [zC], a4⟩) := DSt.le_new n4
  by_cases hn : n < 0 ∨ n ≥ bs.length
  · have e : decT bs n = (zDat, (0, 2)) := by unfold decT; rw [if_pos hn]
    have fin : (optW (aggD (fillD [(D.int .u8 0), (.int .i64 0), (.int .i64 0), .nilSlc] [])) fun v8 => storeD (S.set k4 ⟨4, [zC], a4⟩) 4 (.ptr k4 0) v8 fun v9 S10 => optW (loadAg S10 4 (.ptr k4 0)) fun v11 => FinD E (fun v S' => ∃ t, v = datT (decT bs n) t ∧ Grw S t ((decT bs n).1.2.2.2.map armR) 2 S') (.tup [v11, (.int .i64 0), (.int .i64 2)]) S10) := by
      rw [fiN, agS, oD]
      refine h4.st (clA _) ⟨rfl, by decide, by decide⟩ fun a => ?_
      rw [(Cel.new).all (n := 4) (by decide) rfl, oD, DSt.set_set]
      refine FinD.drop n4 (FinD.here ⟨.nilSlc, ?_, ?_⟩)
      · rw [e]; rfl
      · rw [e]; exact Grw.nil _ _
    rw [biLt, oD]
    by_cases h1 : n < 0
    · rw [decide_eq_true h1]
      simp only [wdB, vdF, oD, pdB, if_true, cdT, show ((true == false) = false) from rfl]
      exact fin
    · have h2 : decide (n ≥ (bs.length : Int)) = true := decide_eq_true (hn.resolve_left h1)
      rw [decide_eq_false h1]
      simp only [wdB, vdT, oD, pdB, Bool.false_eq_true, if_false, bD_len, biGe, h2, cdT, show ((false == false) = true) from rfl]
      exact fin
  have hn0 : ¬ n < 0 := fun h => hn (.inl h)
  have hn1 : ¬ n ≥ (bs.length : Int) := fun h => hn (.inr h)
  obtain ⟨p, rfl⟩ : ∃ p : Nat, n = (p : Int) := ⟨n.toNat, by omega⟩
  have hp : p < bs.length := by omega
  have edT : decT bs (p : Int) = decS bs p := by unfold decT; rw [if_neg hn]; rfl
  obtain ⟨op, hop⟩ : ∃ op, op = bs[p] := ⟨_, rfl⟩
  have hj : bs[p]? = some op := by rw [List.getElem?_eq_getElem hp, hop]
  have hbop : Byte op := hb op (by rw [hop]; exact List.getElem_mem _)
  have egd : bs.getD p 0 = op := by rw [List.getD_eq_getElem?_getD, hj]; rfl
  rw [biLt, oD, decide_eq_false hn0]
  simp only [wdB, vdT, oD, pdB, Bool.false_eq_true, if_false, bD_len, biGe, decide_eq_false hn1, cdF, show ((false == false) = true) from rfl]
  rw [bD_at hj, oD, lsE, List.getElem?_cons_zero, oD]
  have hag : aggD (fillD [(D.int .u8 0), (.int .i64 0), (.int .i64 0), .nilSlc] [(0, 1, .int .u8 op)]) = some (.agg (datC op 0 0 .nilSlc)) := rfl
  rw [hag, oD]
  intro k7 a7 n7
  have d47 : k4 ≠ k7 := h4.none n7
  have n7' : S k7 = none := DSt.none_of le4 n7
  have h7z : Cel ((S.set k4 ⟨4, [zC], a4⟩).set k7 ⟨4, [zC], a7⟩) k7 4 zC := Cel.new
  refine h7z.st (ds := datC op 0 0 .nilSlc) (clA _) ⟨rfl, by decide, by decide⟩ fun a7 => ?_
  rw [DSt.set_set, show setManyD zC 0 (datC op 0 0 .nilSlc) = datC op 0 0 .nilSlc from rfl]
  have h7 : Cel ((S.set k4 ⟨4, [zC], a4⟩).set k7 ⟨4, [datC op 0 0 .nilSlc], a7⟩) k7 4 (datC op 0 0 .nilSlc) := Cel.new
  have h4' := h4.set (o := ⟨4, [datC op 0 0 .nilSlc], a7⟩) n7
  have le7 : S.le ((S.set k4 ⟨4, [zC], a4⟩).set k7 ⟨4, [datC op 0 0 .nilSlc], a7⟩) := DSt.le_set le4 n7'
  generalize (S.set k4 ⟨4, [zC], a4⟩).set k7 ⟨4, [datC op 0 0 .nilSlc], a7⟩ = T7 at *
  rw [ofP, oD, h7.ld, show (datC op 0 0 .nilSlc)[0 + 0]? = some (.int .u8 op) from rfl, oD]
  refine ops_layout_ok.use ?_
  simp only [exD, List.getElem?_cons_zero, List.getElem?_cons_succ, oD, unN]
  cases hlay : lay op with
  | none =>
    rw [show (!(none : Option (List Fld)).isSome) = true from rfl, cdT, fiN, agS, oD]
    have e : decT bs (p : Int) = (zDat, (0, 120)) := by rw [edT]; unfold decS; rw [egd, if_pos hlay]
    refine h4'.st (clA _) ⟨rfl, by decide, by decide⟩ fun a => ?_
    rw [(Cel.new).all (n := 4) (by decide) rfl, oD]
    refine FinD.less (DSt.le_set le7 n4) (FinD.here ⟨.nilSlc, ?_, ?_⟩)
    · rw [e]; rfl
    · rw [e]; exact Grw.nil _ _
  | some l =>
  rw [show (!(some l).isSome) = false from rfl, cdF, biAdd, oD, wrap_i64 (by omega) (by omega)]
  have hag2 : aggD (fillD [.nilSlc, (D.int .i64 0), (.int .i64 0)] [(0, 1, bD bs), (1, 1, .int .i64 ((p : Int) + 1))]) = some (.agg (rdC bs (p + 1, 0))) := rfl
  rw [hag2, oD, clA, oD]
  intro k10 a10 n10
  have hst : DecSt S k4 k7 k10 (datC op 0 0 .nilSlc) bs (p + 1, 0) (T7.set k10 ⟨3, [rdC bs (p + 1, 0)], a10⟩) :=
    ⟨DSt.le_set le7 (DSt.none_of le7 n10), n4, n7', DSt.none_of le7 n10, d47, h4'.set n10, h7.set n10, Cel.new⟩
  have hl2 : l.length ≤ 2 := by have := lay_length (op := op); rw [hlay] at this; exact this
  have hgood : ∀ f ∈ l, goodF f := by have := goodF_lay op; rw [hlay] at this; exact this
  have hgd : (lay op).getD [] = l := by rw [hlay]; rfl
  rw [lnL, oD, rowsF_length, hgd]
  have hl60 : bs.length < 2 ^ 60 := by omega
  have edS : decS bs p = if (decX bs p).2.2 ≠ 0 then (zDat, (0, (decX bs p).2.2)) else decX bs p := by
    unfold decS; rw [egd, if_neg (by rw [hlay]; simp)]
  refine loop_ops_Decode_0 (I := fun n x4 x7 x10 x45 x46 x47 T => x4 = .ptr k4 0 ∧ x7 = .ptr k7 0 ∧ x10 = .ptr k10 0 ∧ x45 = .lst (rowsF op) 2 ∧ x46 = .int .i64 (l.length : Int) ∧ ∃ (j : Nat) (a b : Int) (s : Nat × Int), x47 = .int .i64 (j : Int) ∧ j + n = l.length ∧
      DecSt S k4 k7 k10 (datC op a b .nilSlc) bs s T ∧ s.1 ≤ bs.length ∧ foldF bs j a b s (l.drop j) = rdFields bs l (p + 1, 0)) ?_ (n := l.length)
    ⟨rfl, rfl, rfl, rfl, rfl, 0, 0, 0, (p + 1, 0), rfl, by omega, hst, by show p + 1 ≤ bs.length; omega, foldF_is hl2⟩
  rintro n _ _ _ _ _ _ T ⟨rfl, rfl, rfl, rfl, rfl, j, a, b, s, rfl, hjn, hd, hs, hfold⟩
  unfold B_ops_Decode_0
  rw [biLt, oD, cdI]
  refine ⟨fun hlt => ?_, fun hge => ?_⟩
  · have hlt : j < l.length := by omega
    obtain ⟨f, hf⟩ : ∃ f, f = l[j] := ⟨_, rfl⟩
    have hjf : l[j]? = some f := by rw [List.getElem?_eq_getElem hlt, hf]
    obtain ⟨row, hrow, hfd⟩ := rowsF_at (op := op) (i := j) (f := f) (by rw [hgd]; exact hjf)
    have hg := hgood f (by rw [hf]; exact List.getElem_mem _)
    have hg1 := hg.1
    have hg8 := goodF_size hg
    have hrl := hfd.len
    rw [idxL hrow, oD, laE, if_pos ⟨by decide, by omega⟩, oD, List.drop_zero, List.take_of_length_le (by omega)]
    intro k ak nk
    refine (Cel.new (sz := 2) (c := [D.int .i64 0, .nilFn])).st (ds := row) (clA _) ⟨hrl, by decide, by simp⟩ fun ak => ?_
    rw [DSt.set_set, fld_box hfd]
    have hd2 := hd.new (o := ⟨2, [row], ak⟩) nk
    have hc : Cel (T.set k ⟨2, [row], ak⟩) k 2 row := Cel.new
    change optW _ _
    rw [foldF_drop hjf] at hfold
    have hI := rdS_le (f := f) hs
    rw [biEq, oD, cdB]
    refine ⟨fun h0 => ?_, fun h0 => ?_⟩
    · have h0 : j = 0 := by have : (j : Int) = 0 := by simpa using h0
                            omega
      rw [if_pos h0, if_pos h0] at hfold
      rw [hc.all (n := 2) (by decide) hrl.symm, oD]
      refine (dec_read hd2 hb hl60 hs hfd hg1 hg8).use ?_
      rintro v T2 ⟨rfl, hd3, _⟩
      rw [ofP, oD]
      refine hd3.h7.st (clI _ _) ⟨rfl, by decide, by simp [datC]⟩ fun a7 => ?_
      rw [biAdd, oD, wrap_i64 (by omega) (by omega)]
      exact ⟨n - 1, by omega, rfl, rfl, rfl, rfl, rfl, j + 1, _, b, _, rfl, by omega, hd3.set7 (c := datC op (rdS bs f s).1 b .nilSlc), hI, hfold⟩
    · have h0 : ¬ j = 0 := by have : ¬ (j : Int) = 0 := by simpa using h0
                              omega
      rw [if_neg h0, if_neg h0] at hfold
      rw [hc.all (n := 2) (by decide) hrl.symm, oD]
      refine (dec_read hd2 hb hl60 hs hfd hg1 hg8).use ?_
      rintro v T2 ⟨rfl, hd3, _⟩
      rw [ofP, oD]
      refine hd3.h7.st (clI _ _) ⟨rfl, by decide, by simp [datC]⟩ fun a7 => ?_
      rw [biAdd, oD, wrap_i64 (by omega) (by omega)]
      exact ⟨n - 1, by omega, rfl, rfl, rfl, rfl, rfl, j + 1, a, _, _, rfl, by omega, hd3.set7 (c := datC op a (rdS bs f s).1 .nilSlc), hI, hfold⟩
  · have hj' : j = l.length := by omega
    subst hj'
    rw [List.drop_length, foldF] at hfold
    rw [ofP, oD, hd.h7.ld, show (datC op a b .nilSlc)[0 + 0]? = some (.int .u8 op) from rfl, oD, biEq, oD, cdB]
    refine ⟨fun h49 => ?_, fun h49 => ?_⟩
    · have h49 : op = 49 := by simpa using h49
      have hb0 : b = 0 := by
        have hl1 := lay49 hlay h49
        rw [hl1] at hfold
        exact congrArg (fun q : Int × Int × (Nat × Int) => q.2.1) hfold
      subst hb0
      have edX : decX bs p = decSw bs 49 a s := by unfold decX; rw [egd, if_pos h49, hgd, ← hfold]
      have d7 : ∀ {k : Nat}, T k = none → k7 ≠ k := fun hk => hd.h7.none hk
      have hfin : ∀ {k l : Nat} {T' : DSt}, T k = none → T l = none → DecSt S k4 k7 k10 (datC op a 0 .nilSlc) bs s T' → Cel T' k 2 [.int .i64 4, betD 0 4294967295] → Cel T' l 2 [.int .i64 8, fitD (IntKind.u8.wrap a)] →
          C_ops_Decode_34 E w0 false (FinD E (fun v S' => ∃ t, v = datT (decT bs (p : Int)) t ∧ Grw S t ((decT bs (p : Int)).1.2.2.2.map armR) 2 S')) (.ptr k4 0) (.ptr k7 0) (.ptr k10 0) (.ptr k 0) (.ptr l 0) T' := fun {k l T'} nk nl hd' c1 c2 => by
        refine dec_sw hb hl hd' hs c1 c2 (DSt.none_of hd.le nk) (DSt.none_of hd.le nl) ⟨d7 nk, d7 nl⟩ fun t S' hg => ?_
        rw [h49]
        rw [h49] at hg
        by_cases he : (decSw bs 49 a s).2.2 = 0
        · rw [if_pos he]
          have e : decT bs (p : Int) = decSw bs 49 a s := by rw [edT, edS, edX, if_neg (by simp [he])]
          refine FinD.here ⟨t, ?_, by rw [e]; exact hg⟩
          rw [e]
          unfold datT
          rw [he]
          rfl
        · rw [if_neg he]
          have e : decT bs (p : Int) = (zDat, (0, (decSw bs 49 a s).2.2)) := by rw [edT, edS, edX, if_pos he]
          refine FinD.less hg.le (FinD.here ⟨.nilSlc, ?_, by rw [e]; exact Grw.nil _ _⟩)
          rw [e]; rfl
      have ld1 : loadSc T (.ptr k7 (0 + 1)) = some (.int .i64 a) := hd.h7.ld 1
      have hA : ∀ {k l : Nat} {ak al : List AV}, T k = none → (T.set k ⟨2, [[.int .i64 0, .nilFn]], ak⟩) l = none → ∀ ak al, C_ops_Decode_34 E w0 false (FinD E (fun v S' => ∃ t, v = datT (decT bs (p : Int)) t ∧ Grw S t ((decT bs (p : Int)).1.2.2.2.map armR) 2 S')) (.ptr k4 0) (.ptr k7 0) (.ptr k10 0) (.ptr k 0) (.ptr l 0)
          ((T.set k ⟨2, [[.int .i64 4, betD 0 4294967295]], ak⟩).set l ⟨2, [[.int .i64 8, fitD (IntKind.u8.wrap a)]], al⟩) := fun {k l _ _} nk nl ak al => by
        obtain ⟨ne, nl'⟩ := DSt.fresh nl
        have nl2 : (T.set k ⟨2, [[.int .i64 4, betD 0 4294967295]], ak⟩) l = none := by rw [DSt.set_ne _ _ _ ne]; exact nl'
        exact hfin nk nl' ((hd.new nk).new nl2) ((Cel.new).set nl2) Cel.new
      have hB : ∀ {k l : Nat} {ak al : List AV}, T k = none → (T.set k ⟨2, [[.int .i64 0, .nilFn]], ak⟩) l = none → ∀ ak al, C_ops_Decode_34 E w0 false (FinD E (fun v S' => ∃ t, v = datT (decT bs (p : Int)) t ∧ Grw S t ((decT bs (p : Int)).1.2.2.2.map armR) 2 S')) (.ptr k4 0) (.ptr k7 0) (.ptr k10 0) (.ptr l 0) (.ptr k 0)
          ((T.set k ⟨2, [[.int .i64 8, fitD (IntKind.u8.wrap a)]], ak⟩).set l ⟨2, [[.int .i64 4, betD 0 4294967295]], al⟩) := fun {k l _ _} nk nl ak al => by
        obtain ⟨ne, nl'⟩ := DSt.fresh nl
        have nl2 : (T.set k ⟨2, [[.int .i64 8, fitD (IntKind.u8.wrap a)]], ak⟩) l = none := by rw [DSt.set_ne _ _ _ ne]; exact nl'
        exact hfin nl' nk ((hd.new nk).new nl2) Cel.new ((Cel.new).set nl2)
      have l0 : ∀ {k : Nat} {o : DObj}, T k = none → (T.set k o) k7 = T k7 := fun nk => DSt.set_ne _ _ _ (d7 nk)
      refine ⟨rfl, ?_, ?_, ?_, ?_, ?_, ?_, ?_, ?_, ?_, ?_, ?_, ?_, by trivial⟩
      all_goals (repeat (first | refine ⟨by trivial, ?_⟩ | refine ops_between_ok.useX ?_ | refine ops_fits_ok.useX ?_ | rw [fill2 (clBet _ _), oD] | rw [fill2 (clFit _), oD] | rw [ofP, oD] | rw [ld1, oD] | rw [cvI, oD] | refine ⟨⟨⟨by simp [orAny, ld1], rfl⟩, by trivial⟩, ?_⟩))
      all_goals (intro k ak nk)
      all_goals (have f1 := l0 (o := ⟨2, [[.int .i64 0, .nilFn]], ak⟩) nk)
      all_goals (repeat (first | refine ⟨by trivial, ?_⟩ | refine ops_between_ok.useX ?_ | refine ops_fits_ok.useX ?_ | rw [fill2 (clBet _ _), oD] | rw [fill2 (clFit _), oD] | refine ⟨⟨f1, by trivial⟩, ?_⟩))
      all_goals (intro l' al nl)
      all_goals (have f2 : ∀ {o : DObj}, ((T.set k ⟨2, [[.int .i64 0, .nilFn]], ak⟩).set l' o) k7 = T k7 := fun {o} => by rw [DSt.set_ne _ _ _ (d7 (DSt.fresh nl).2)]; exact f1)
      all_goals (have ne : k ≠ l' := Ne.symm (DSt.fresh nl).1)
      all_goals (repeat (first | refine ⟨by trivial, ?_⟩ | refine ops_between_ok.useX ?_ | refine ops_fits_ok.useX ?_ | rw [fill2 (clBet _ _), oD] | rw [fill2 (clFit _), oD] | refine ⟨⟨f2, by trivial⟩, ?_⟩))
      all_goals (first
        | refine stP (k := k) (cs := [.int .i64 0, .nilFn]) (DSt.set_ne _ _ _ ne |>.trans (DSt.set_same _ _ _)) (clA _) ⟨rfl, by decide, by simp⟩ fun a1 => ?_
        | refine stP (k := l') (cs := [.int .i64 0, .nilFn]) (DSt.set_same _ _ _) (clA _) ⟨rfl, by decide, by simp⟩ fun a1 => ?_)
      all_goals (refine ⟨by trivial, ?_⟩)
      all_goals (first
        | refine stP (k := l') (cs := [.int .i64 0, .nilFn]) ((DSt.set_ne _ _ _ (Ne.symm ne)).trans (DSt.set_same _ _ _)) (clA _) ⟨rfl, by decide, by simp⟩ fun a2 => ?_
        | refine stP (k := k) (cs := [.int .i64 0, .nilFn]) (((DSt.set_ne _ _ _ ne).trans (DSt.set_ne _ _ _ ne)).trans (DSt.set_same _ _ _)) (clA _) ⟨rfl, by decide, by simp⟩ fun a2 => ?_)
      all_goals (refine ⟨by trivial, ?_⟩)
      all_goals (first | rw [two1 _ ne] | rw [two2 _ ne])
      all_goals (first | exact hA (al := al) nk nl _ _ | exact hB (al := al) nk nl _ _)
    · have h49 : ¬ op = 49 := by simpa using h49
      have edX : decX bs p = ((op, a, b, []), s) := by unfold decX; rw [egd, if_neg h49, hgd, ← hfold]
      refine dec_end hd.h4 hd.h7 hd.h10 rfl rfl fun S'' hS'' => ?_
      have hle : S.le S'' := fun i o e => by rw [hS'' i (fun e' => by rw [e', hd.n4] at e; cases e)]; exact hd.le _ _ e
      refine FinD.less hle (FinD.here ⟨.nilSlc, ?_, ?_⟩)
      · by_cases he : s.2 = 0
        · rw [if_pos he, edT, edS, edX, if_neg (by simp [he])]
          unfold datT; rw [he]
        · rw [if_neg he, edT, edS, edX, if_pos (by simpa using he)]; rfl
      · rw [edT, edS, edX]
        by_cases he : s.2 = 0
        · rw [if_neg (by simp [he])]; exact Grw.nil _ _
        · rw [if_pos (by simpa using he)]; exact Grw.nil _ _
end
end Go.Proofs.Ytchnpgddpaonhaa.d
end

section
namespace Go.Am
set_option linter.unusedVariables false
set_option linter.unusedSimpArgs false
/-- The object of a slice that is turned. -/
def ob : D → List Nat
  | .raw k _ _ _ _ _ => [k]
  | _ => []
section
variable {S T : DSt} {av : List Nat} {t u : D} {rows rows' : List (List D)} {sz sz' : Nat}
theorem GrA.ob_some (h : GrA S av t rows sz T) : ∀ j ∈ ob t, T j ≠ Option.none := by
  rcases h with ⟨rfl, _⟩ | ⟨k, acs, _, _, rfl, h3⟩
  · simp [ob]
  · simp [ob, h3]
theorem GrA.ob_av (h : GrA S av t rows sz T) : ∀ j ∈ ob t, j ∉ av := by
  rcases h with ⟨rfl, _⟩ | ⟨k, acs, _, h1, rfl, _⟩
  · simp [ob]
  · simpa [ob] using h1
/-- Other objects that are to be kept apart. -/
theorem GrA.apart (h : GrA S av t rows sz T) {T' : DSt} {av' : List Nat} (e : ∀ j ∈ ob t, T' j = T j) (ha : ∀ j ∈ ob t, j ∉ av') : GrA S av' t rows sz T' := by
  rcases h with h | ⟨k, acs, h0, h1, rfl, h3⟩
  · exact .inl h
  · exact .inr ⟨k, acs, h0, ha k (by simp [ob]), rfl, by rw [e k (by simp [ob])]; exact h3⟩
theorem FinD.grA {E : Env} {Q : D → DSt → Prop} {pre post : List D} (h : GrA S av t rows sz T) (hle : S.le T) (hQ : ∀ T', S.le T' → (∀ j, j ∉ ob t → T' j = T j) → FinD E Q (.tup (pre ++ .lst rows sz :: post)) T') : FinD E Q (.tup (pre ++ t :: post)) T := by
  rcases h with ⟨rfl, rfl⟩ | ⟨k, acs, h0, h1, rfl, h3⟩
  · exact FinD.nilT (hQ T hle fun _ _ => rfl)
  · refine FinD.freezeT h3 rfl (by simp) (Nat.le_refl _) ?_
    simpa using hQ (T.erase k) (DSt.le_erase hle h0) fun j hj => DSt.erase_ne _ _ (by simpa [ob] using hj)
def GrP (S : DSt) (av : List Nat) (t : D) (rows : List (List D)) (sz : Nat) (u : D) (rows' : List (List D)) (sz' : Nat) (T : DSt) : Prop :=
  S.le T ∧ (∀ j ∈ av, T j ≠ Option.none) ∧ GrA S (ob u ++ av) t rows sz T ∧ GrA S (ob t ++ av) u rows' sz' T
theorem GrP.nil : GrP S [] .nilSlc [] sz .nilSlc [] sz' S := ⟨DSt.le_refl _, by simp, GrA.nil, GrA.nil⟩
theorem GrP.swap (h : GrP S av t rows sz u rows' sz' T) : GrP S av u rows' sz' t rows sz T := ⟨h.1, h.2.1, h.2.2.2, h.2.2.1⟩
theorem GrP.push (h : GrP S av t rows sz u rows' sz' T) {bytes : Nat} {v : D} {news : List (List D)} (hv : rowsS T sz v = some news) (hn : news ≠ []) (hb : 0 < bytes ∧ (2 * (rows.length + news.length) + 768) * bytes ≤ 2 ^ 47) {K : D → DSt → Prop}
    (hK : ∀ t' T', (∀ j ∈ av, T' j = T j) → GrP S av t' (rows ++ news) sz u rows' sz' T' → K t' T') : appendD T sz bytes t v K := by
  obtain ⟨h1, h2, h3, h4⟩ := h
  refine h3.push h1 (fun j hj => ?_) hv hn hb fun t' T' hle he hg => hK t' T' (fun j hj => he j (List.mem_append_right _ hj)) ⟨hle, fun j hj => ?_, hg, ?_⟩
  · rcases List.mem_append.1 hj with hj | hj
    · exact h4.ob_some j hj
    · exact h2 j hj
  · rw [he j (List.mem_append_right _ hj)]; exact h2 j hj
  · refine h4.apart (fun j hj => he j (List.mem_append_left _ hj)) fun j hj hm => ?_
    rcases List.mem_append.1 hm with hm | hm
    · exact hg.ob_av j hm (List.mem_append_left _ hj)
    · exact h4.ob_av j hj (List.mem_append_right _ hm)
theorem GrP.set (h : GrP S av t rows sz u rows' sz' T) {l : Nat} {o : DObj} (hl : T l = Option.none) : GrP S av t rows sz u rows' sz' (T.set l o) := by
  obtain ⟨h1, h2, h3, h4⟩ := h
  exact ⟨DSt.le_set h1 (DSt.none_of h1 hl), fun j hj => (by rw [DSt.set_ne _ _ _ (fun e => h2 j hj (by rw [e]; exact hl))]; exact h2 j hj), h3.set (.inr hl), h4.set (.inr hl)⟩
/-- One more that is to be kept apart: one that was not there. -/
theorem GrP.more (h : GrP S av t rows sz u rows' sz' T) {l : Nat} {o : DObj} (hl : T l = Option.none) : GrP S (l :: av) t rows sz u rows' sz' (T.set l o) := by
  have hs := h.set (o := o) hl
  have n1 : ∀ j ∈ ob t, j ≠ l := fun j hj e => h.2.2.1.ob_some j hj (e ▸ hl)
  have n2 : ∀ j ∈ ob u, j ≠ l := fun j hj e => h.2.2.2.ob_some j hj (e ▸ hl)
  refine ⟨hs.1, fun j hj => ?_, hs.2.2.1.apart (fun _ _ => rfl) fun j hj hm => ?_, hs.2.2.2.apart (fun _ _ => rfl) fun j hj hm => ?_⟩
  · rcases List.mem_cons.1 hj with rfl | hj
    · rw [DSt.set_same]; simp
    · exact hs.2.1 j hj
  · rcases List.mem_append.1 hm with hm | hm
    · exact hs.2.2.1.ob_av j hj (List.mem_append_left _ hm)
    · rcases List.mem_cons.1 hm with rfl | hm
      · exact n1 _ hj rfl
      · exact hs.2.2.1.ob_av j hj (List.mem_append_right _ hm)
  · rcases List.mem_append.1 hm with hm | hm
    · exact hs.2.2.2.ob_av j hj (List.mem_append_left _ hm)
    · rcases List.mem_cons.1 hm with rfl | hm
      · exact n2 _ hj rfl
      · exact hs.2.2.2.ob_av j hj (List.mem_append_right _ hm)
theorem GrP.fin {E : Env} {Q : D → DSt → Prop} {post : List D} (h : GrP S av t rows sz u rows' sz' T) (hQ : FinD E Q (.tup (.lst rows sz :: .lst rows' sz' :: post)) S) : FinD E Q (.tup (t :: u :: post)) T := by
  obtain ⟨h1, h2, h3, h4⟩ := h
  refine FinD.grA (pre := []) h3 h1 fun T' hle he => ?_
  have h4' : GrA S (ob t ++ av) u rows' sz' T' := h4.apart (fun j hj => he j fun hm => h3.ob_av j hm (List.mem_append_left _ hj)) fun j hj hm => h4.ob_av j hj hm
  exact FinD.grA (pre := [.lst rows sz]) h4' hle fun T2 hle2 _ => FinD.less hle2 hQ
end
end Go.Am
end

section
open Go.Proofs Go Go.Am Go.Op
namespace Go.Proofs.Ytchnpgddpaonhaa.d
set_option linter.unusedVariables false
set_option linter.unusedSimpArgs false
set_option maxRecDepth 100000
def PureW (P : Program) (E : Env) (w0 : World) (f : FuncId) (ds : List D) (d : D) : Prop := ∀ S, DFn P E w0 false f ds S fun d' S' => d' = d ∧ S' = S
theorem PureW.use {P : Program} {E : Env} {w0 : World} {f : FuncId} {ds : List D} {d : D} (h : PureW P E w0 f ds d) {S : DSt} {K : D → DSt → Prop} (hk : K d S) : DFn P E w0 false f ds S K := (h S).use fun d' S' ⟨a, b⟩ => by subst a b; exact hk
section
variable {E : Env} {w0 : World}
end
end Go.Proofs.Ytchnpgddpaonhaa.d
end

section
open Go.Proofs Go Go.Am Go.Op
namespace Go.Proofs.Ytchnpgddpaonhaa.d
set_option linter.unusedVariables false
set_option linter.unusedSimpArgs false
set_option maxRecDepth 100000
def inOf (d : Dat) : In := ⟨d.1, d.2.1, d.2.2.1, d.2.2.2⟩
theorem inOf_dat (d : Dat) : (inOf d).dat = d := rfl
def insD (l : List In) : D := .lst (l.map inC) 4
def datV (r : Dat × (Nat × Int)) : D := .tup [inD (inOf r.1), .int .i64 (r.2.1 : Int), .int .i64 r.2.2]
def insOf (l : List (Dat × Nat)) : List In := l.map fun x => inOf x.1
def plsOf (l : List (Dat × Nat)) : List Int := l.map fun x => (x.2 : Int)
def allV (r : Except Int (List (Dat × Nat))) : D := match r with
  | .ok l => .tup [insD (insOf l), iD (plsOf l), .int .i64 0]
  | .error e => .tup [insD [], iD [], .int .i64 e]
abbrev allS (bs : List Int) : Except Int (List (Dat × Nat)) := allT bs (bs.length + 1) 0
theorem allT_step {bs : List Int} {n p : Nat} (hp : p < bs.length) : allT bs (n + 1) p = if (decT bs p).2.2 = 0 then (match allT bs n (decT bs p).2.1 with | .ok l => .ok (((decT bs p).1, p) :: l) | .error e => .error e) else .error (decT bs p).2.2 := by
  rw [allT, if_neg (by omega)]
  all_goals rfl
theorem prep_step {done : List (Dat × Nat)} {x : Dat × Nat} (r : Except Int (List (Dat × Nat))) : prep done (match r with | .ok l => .ok (x :: l) | .error e => .error e) = prep (done ++ [x]) r := by
  cases r with
  | error e => rfl
  | ok l => simp [prep]
theorem dec_next {bs : List Int} (hb : ∀ b ∈ bs, Byte b) {p : Nat} (h : (decT bs (p : Int)).2.2 = 0) : (inOf (decT bs p).1).Ok ∧ p < (decT bs p).2.1 ∧ (decT bs p).2.1 ≤ bs.length := by
  obtain ⟨_, _, h3, _, hsg, hnx⟩ := decT_is hb h (inOf_dat _)
  rw [Int.toNat_natCast] at hnx hsg
  have := enc_pos (inOf (decT bs p).1)
  have := hsg.1
  exact ⟨h3, by omega, by omega⟩
section
variable {E : Env} {w0 : World}
theorem frz_whole {k sz : Nat} {rows : List (List D)} {acs : List AV} : Am.frz k ⟨sz, rows, acs⟩ (.raw k 0 rows.length rows.length false sz) = .lst rows sz := by
  rw [frz_raw (by omega) (Nat.le_refl _), List.drop_zero, List.take_length]
theorem ops_Decode_ok {bs : List Int} (hb : ∀ b ∈ bs, Byte b) (hl : bs.length < 2 ^ 30) {n : Int} : PureW Try.prog E w0 f_ops_Decode [bD bs, .int .i64 n] (datV (decT bs n)) := fun S =>
  (ops_Decode_own hb hl).fin fun v S' ⟨t, ev, g⟩ => by
    subst ev
    rcases g with ⟨rfl, e, rfl⟩ | ⟨k, acs, h0, rfl, rfl⟩
    · refine FinD.weak (d' := datV (decT bs n)) ?_ FinD.pure
      refine Wk.tup ⟨Wk.agg ⟨Wk.refl _, Wk.refl _, Wk.refl _, ?_, trivial⟩, Wk.refl _, Wk.refl _, trivial⟩
      have : armD (inOf (decT bs n).1).arms = .lst [] 2 := by unfold armD; rw [show (inOf (decT bs n).1).arms = (decT bs n).1.2.2.2 from rfl, e]
      rw [this]
      exact Wk.nil 2
    · refine FinD.frz h0 ?_
      have : Am.frz k ⟨2, (decT bs n).1.2.2.2.map armR, acs⟩ (datT (decT bs n) (.raw k 0 ((decT bs n).1.2.2.2.map armR).length ((decT bs n).1.2.2.2.map armR).length false 2)) = datV (decT bs n) := by
        have e : ∀ (o : DObj) (a b c d e : Int) (tt : D), Am.frz k o (.tup [.agg [.int .u8 a, .int .i64 b, .int .i64 c, tt], .int .i64 d, .int .i64 e]) = .tup [.agg [.int .u8 a, .int .i64 b, .int .i64 c, Am.frz k o tt], .int .i64 d, .int .i64 e] := by
          intros; simp only [Am.frz, Am.frzL]
        unfold datT datC
        rw [e, frz_whole]
        rfl
      rw [this]
      exact FinD.pure
theorem ops_All_ok {bs : List Int} (hb : ∀ b ∈ bs, Byte b) (hl : bs.length < 2 ^ 30) : PureW Try.prog E w0 f_ops_All [bD bs] (allV (allS bs)) := fun S => by
  refine V_ops_All_ok ?_
  unfold V_ops_All
  refine loop_ops_All_0 (I := fun n x0 x5 x6 x7 T => x0 = bD bs ∧ ∃ (p : Nat) (done : List (Dat × Nat)), x7 = .int .i64 (p : Int) ∧ p ≤ bs.length ∧ bs.length < p + n ∧ done.length ≤ p ∧ GrP S [] x5 ((insOf done).map inC) 4 x6 (iC (plsOf done)) 1 T ∧ allS bs = prep done (allT bs n p)) ?_ (n := bs.length + 1)
    ⟨rfl, 0, [], rfl, by omega, by omega, by simp, GrP.nil, by unfold allS; cases allT bs (bs.length + 1) 0 <;> rfl⟩
  rintro n _ x5 x6 _ T ⟨rfl, p, done, rfl, hp, hpn, hdl, hg, hrun⟩
  unfold B_ops_All_0
  rw [bD_len, oD, biLt, oD, cdI]
  obtain ⟨n, rfl⟩ : ∃ m, n = m + 1 := ⟨n - 1, by omega⟩
  refine ⟨fun hlt => ?_, fun hge => ?_⟩
  · have hlt : p < bs.length := by omega
    rw [allT_step hlt] at hrun
    refine (ops_Decode_ok hb hl).use ?_
    unfold datV
    simp only [exD, List.getElem?_cons_zero, List.getElem?_cons_succ, oD]
    intro k a nk
    refine (Cel.new (sz := 4) (c := [.int .u8 0, .int .i64 0, .int .i64 0, .nilSlc])).st (ds := inC (inOf (decT bs p).1)) (clA _) ⟨rfl, by decide, by decide⟩ fun a' => ?_
    rw [DSt.set_set, show setManyD [.int .u8 0, .int .i64 0, .int .i64 0, .nilSlc] 0 (inC (inOf (decT bs p).1)) = inC (inOf (decT bs p).1) from rfl, biNe, oD, bneD, cdI]
    have hg2 := hg.set (o := ⟨4, [inC (inOf (decT bs p).1)], a'⟩) nk
    refine ⟨fun he => ?_, fun he => ?_⟩
    · rw [if_neg he] at hrun
      rw [hrun]
      refine FinD.less hg2.1 (FinD.weak (d' := .tup [insD [], iD [], .int .i64 (decT bs p).2.2]) (Wk.tup ⟨Wk.nil 4, Wk.nil 1, Wk.refl _, trivial⟩) FinD.pure)
    · have he : (decT bs p).2.2 = 0 := Classical.not_not.1 he
      obtain ⟨_, h1, h2⟩ := dec_next hb he
      rw [if_pos he, prep_step] at hrun
      rw [(Cel.new).all (n := 4) (by decide) rfl, oD, show fillR 4 (List.replicate 1 [(D.int .u8 0), (.int .i64 0), (.int .i64 0), .nilSlc]) [(0, .agg (inC (inOf (decT bs p).1)))] = some [inC (inOf (decT bs p).1)] from rfl]
      refine lit_lst rfl ?_
      refine hg2.push (news := [inC (inOf (decT bs p).1)]) (by simp [rowsS, rowsOf]) (by simp) (by simp [insOf]; omega) fun t' T' _ hg3 => ?_
      rw [show fillR 1 (List.replicate 1 [D.int .i64 0]) [(0, .int .i64 (p : Int))] = some (iC [(p : Int)]) from rfl]
      refine lit_lst rfl ?_
      refine hg3.swap.push (news := iC [(p : Int)]) (by simp [rowsS, rowsOf]) (by simp [iC, ones]) (by simp [plsOf]; omega) fun u' T2 _ hg4 => ?_
      refine ⟨n, by omega, by trivial, (decT bs p).2.1, done ++ [((decT bs p).1, p)], rfl, h2, by omega, by simp; omega, ?_, hrun⟩
      have e1 : (insOf (done ++ [((decT bs p).1, p)])).map inC = (insOf done).map inC ++ [inC (inOf (decT bs p).1)] := by simp [insOf]
      have e2 : iC (plsOf (done ++ [((decT bs p).1, p)])) = iC (plsOf done) ++ iC [(p : Int)] := by rw [← iC_append]; simp [plsOf]
      rw [e1, e2]
      exact hg4.swap
  · have e0 : allT bs (n + 1) p = .ok [] := by rw [allT, if_pos (by omega)]
    rw [e0] at hrun
    rw [hrun]
    refine hg.fin ?_
    have : allV (prep done (.ok [])) = .tup [.lst ((insOf done).map inC) 4, .lst (iC (plsOf done)) 1, .int .i64 0] := by simp [allV, prep, insD, iD]
    rw [this]
    exact FinD.pure
end
theorem allT_len {bs : List Int} (hb : ∀ b ∈ bs, Byte b) : ∀ (n p : Nat) (l : List (Dat × Nat)), allT bs n p = .ok l → p ≤ bs.length → l.length + p ≤ bs.length ∧ ∀ x ∈ l, (inOf x.1).Ok
  | 0, p, l, h, hp => by cases h; exact ⟨by simpa using hp, by simp⟩
  | n + 1, p, l, h, hp => by
    by_cases hlt : p < bs.length
    · rw [allT_step hlt] at h
      split at h
      · rename_i he
        obtain ⟨h1, h2, h3⟩ := dec_next hb he
        split at h
        · rename_i l' e
          cases h
          obtain ⟨g1, g2⟩ := allT_len hb n _ l' e h3
          refine ⟨by simp only [List.length_cons]; omega, fun x hx => ?_⟩
          rcases List.mem_cons.1 hx with rfl | hx
          · exact h1
          · exact g2 x hx
        · cases h
      · cases h
    · have e0 : allT bs (n + 1) p = .ok [] := by rw [allT, if_pos (by omega)]
      rw [e0] at h
      cases h
      exact ⟨by simpa using hp, by simp⟩
/-- The lists that All answers: of the instructions, of the places. -/
def allL (r : Except Int (List (Dat × Nat))) : List In × List Int × Int := match r with
  | .ok l => (insOf l, plsOf l, 0)
  | .error e => ([], [], e)
theorem allV_is (r : Except Int (List (Dat × Nat))) : allV r = .tup [insD (allL r).1, iD (allL r).2.1, .int .i64 (allL r).2.2] := by cases r <;> rfl
theorem allL_ok {bs : List Int} (hb : ∀ b ∈ bs, Byte b) : (∀ y ∈ (allL (allS bs)).1, y.Ok) ∧ (allL (allS bs)).1.length ≤ bs.length ∧ (allL (allS bs)).2.1.length ≤ bs.length := by
  cases h : allS bs with
  | error e => exact ⟨by simp [allL], by simp [allL], by simp [allL]⟩
  | ok l =>
    obtain ⟨h1, h2⟩ := allT_len hb _ 0 l h (Nat.zero_le _)
    refine ⟨fun y hy => ?_, by simp [allL, insOf]; omega, by simp [allL, plsOf]; omega⟩
    obtain ⟨x, hx, rfl⟩ := List.mem_map.1 hy
    exact h2 x hx
end Go.Proofs.Ytchnpgddpaonhaa.d
end
