/-
  Texts Cn Co, as far as they are used.
-/
import Derived.Test.YtcboaonbfgjmgaaZbb
section
open Go.Proofs Go Go.Am Go.Op
namespace Go.Proofs.Ytcboaonbfgjmgaa.d
set_option linter.unusedVariables false
set_option linter.unusedSimpArgs false
set_option maxRecDepth 100000
abbrev markT : Tx := [109, 97, 114, 107]
def fldsX (fs : List (Tx × Int)) : D := .ext (fs.map fldR) [fldR (markT, 0)] 2
def tyXR (t : Ty) : List D := [.int .u8 t.kind, .str t.name, fldsX t.fields, .int .i64 t.elem, .int .i64 t.len]
def markTy : List D := [.int .u8 0, .str markT, .nilSlc, .int .i64 0, .int .i64 0]
def tysX (l : List Ty) : D := .ext (l.map tyXR) [markTy] 5
def txsX (l : List Tx) : D := .ext (ones (l.map D.str)) [[.str markT]] 1
def roXR (r : Ro) : List D := [.str r.name, iX r.params, iX r.results, .int .i64 r.locals, .int .i64 r.stack, bX r.code]
def markRo : List D := [.str markT, .nilSlc, .nilSlc, .int .i64 0, .int .i64 0, .nilSlc]
def rosX (l : List Ro) : D := .ext (l.map roXR) [markRo] 6
def moX (m : Mo) : D := .agg [tysX m.types, txsX m.texts, rosX m.funcs]
theorem fldsX_wk (l : List (Tx × Int)) : Wk (fldsX l) (fldsD l) := Wk.ext _ _ _
theorem tysX_wk (l : List Ty) : Wk (tysX l) (tysD l) := (Wk.ext _ _ _).trans (Wk.lst (WkR.map (f := tyXR) (g := tyR) (fun t => ⟨⟨Wk.refl _, Wk.refl _, fldsX_wk _, Wk.refl _, Wk.refl _, trivial⟩, rfl⟩) l) 5)
theorem txsX_wk (l : List Tx) : Wk (txsX l) (txsD l) := Wk.ext _ _ _
theorem rosX_wk (l : List Ro) : Wk (rosX l) (rosD l) := (Wk.ext _ _ _).trans (Wk.lst (WkR.map (f := roXR) (g := roR) (fun t => ⟨⟨Wk.refl _, iX_wk _, iX_wk _, Wk.refl _, Wk.refl _, bX_wk _, trivial⟩, rfl⟩) l) 6)
theorem moX_wk (m : Mo) : Wk (moX m) (moD m) := Wk.agg ⟨tysX_wk _, txsX_wk _, rosX_wk _, trivial⟩
@[simp] theorem fldsD_rows (S : DSt) (l : List (Tx × Int)) : rowsS S 2 (fldsD l) = some (l.map fldR) := by simp [fldsD, rowsS, rowsOf]
@[simp] theorem txsD_rows (S : DSt) (l : List Tx) : rowsS S 1 (txsD l) = some (ones (l.map D.str)) := by simp [txsD, rowsS, rowsOf]
theorem Grw.cells {S0 S : DSt} {t : D} {rows : List (List D)} {sz : Nat} (g : Grw S0 t rows sz S) : cellsD t = some [t] := by rcases g with ⟨rfl, _⟩ | ⟨_, _, _, rfl, _⟩ <;> rfl
/-- The small bounds of what may be lent. -/
structure Mo.Fits (m : Mo) : Prop where
  ok : m.Ok
  types : m.types.length < 2 ^ 30
  texts : m.texts.length < 2 ^ 30
  funcs : m.funcs.length < 2 ^ 30
  fields : ∀ t ∈ m.types, t.fields.length < 2 ^ 30
  params : ∀ r ∈ m.funcs, r.params.length < 2 ^ 30 ∧ r.results.length < 2 ^ 30 ∧ r.code.length < 2 ^ 30
section
variable {E : Env} {w0 : World}
theorem kit_LentModule_ok {m : Mo} (hm : m.Fits) : Pure Try.prog E w0 f_kit_LentModule [moD m] (moX m) := fun x S => by
  refine V_kit_LentModule_ok ?_
  unfold V_kit_LentModule
  rw [moD, clA, oD]
  intro k c n
  intro k2 c2 n2
  intro k3 c3 n3
  obtain ⟨ne2, n2'⟩ := DSt.fresh n2
  obtain ⟨ne3, n3'⟩ := DSt.fresh n3
  obtain ⟨ne3', n3''⟩ := DSt.fresh n3'
  obtain ⟨xa0, xa1, xa2⟩ := moC_at m
  have b1 := hm.types; have b2 := hm.texts; have b3 := hm.funcs
  -- the base of all: the three boxes
  have base : ∃ B, B = (((S.set k ⟨3, [moC m], c⟩).set k2 ⟨3, [[.nilSlc, .nilSlc, .nilSlc]], c2⟩).set k3 ⟨3, [[.nilSlc, .nilSlc, .nilSlc]], c3⟩) ∧ S.le B ∧ B k = some ⟨3, [moC m], c⟩ ∧ B k2 = some ⟨3, [[.nilSlc, .nilSlc, .nilSlc]], c2⟩ ∧ B k3 = some ⟨3, [[.nilSlc, .nilSlc, .nilSlc]], c3⟩ :=
    ⟨_, rfl, DSt.le_set (DSt.le_set (DSt.le_new n) n2') n3'', by rw [DSt.set_ne _ _ _ (Ne.symm ne3'), DSt.set_ne _ _ _ (Ne.symm ne2)]; exact DSt.set_same _ _ _, by rw [DSt.set_ne _ _ _ (Ne.symm ne3)]; exact DSt.set_same _ _ _, DSt.set_same _ _ _⟩
  obtain ⟨B, hB, hle, h0, h2, h3⟩ := base
  show CodeD Try.prog E w0 x _ _ (((S.set k ⟨3, [moC m], c⟩).set k2 ⟨3, [[.nilSlc, .nilSlc, .nilSlc]], c2⟩).set k3 ⟨3, [[.nilSlc, .nilSlc, .nilSlc]], c3⟩) _
  rw [← hB]
  clear hB n2 n3 n3'
  have up : ∀ {B : DSt} {o : DObj}, S.le B → S.le (B.set k3 o) := fun h => DSt.le_set h n3''
  have keep : ∀ {B : DSt} {o : DObj}, B k = some ⟨3, [moC m], c⟩ → (B.set k3 o) k = some ⟨3, [moC m], c⟩ := fun h => by rw [DSt.set_ne _ _ _ (Ne.symm ne3')]; exact h
  have keep2 : ∀ {B : DSt} {o : DObj}, B k2 = some ⟨3, [[.nilSlc, .nilSlc, .nilSlc]], c2⟩ → (B.set k3 o) k2 = some ⟨3, [[.nilSlc, .nilSlc, .nilSlc]], c2⟩ := fun h => by rw [DSt.set_ne _ _ _ (Ne.symm ne3)]; exact h
  refine loop_kit_LentModule_0 (I := fun n x1 x2 x3 x4 S' => x1 = .ptr k 0 ∧ x2 = .ptr k2 0 ∧ x3 = .ptr k3 0 ∧ ∃ (i : Nat) (B : DSt) (t : D) (c3 : List AV), x4 = .int .i64 (i : Int) ∧ i + n = m.types.length ∧ S.le B ∧ B k = some ⟨3, [moC m], c⟩ ∧ B k2 = some ⟨3, [[.nilSlc, .nilSlc, .nilSlc]], c2⟩ ∧ B k3 = some ⟨3, [[t, .nilSlc, .nilSlc]], c3⟩ ∧ Grw B t ((m.types.take i).map tyXR) 5 S') ?_ (n := m.types.length)
    ⟨rfl, rfl, rfl, 0, B, .nilSlc, c3, rfl, by omega, hle, h0, h2, h3, Grw.nil _ _⟩
  clear hle h0 h2 h3 B c3
  rintro n' _ _ _ _ S1 ⟨rfl, rfl, rfl, i, B, t, c3, rfl, hi, hle, h0, h2, h3, g⟩
  have g0 := g.le _ _ h0
  have g3 := g.le _ _ h3
  unfold B_kit_LentModule_0
  simp only [ofP, oD, ldP g0, Nat.zero_add, xa0, tysD_len, biLt]
  rw [cdI]
  refine ⟨fun hlt => ?_, fun hge => ?_⟩
  · have hlt : i < m.types.length := by omega
    obtain ⟨y, hy⟩ : ∃ y, y = m.types[i] := ⟨_, rfl⟩
    have ea : m.types[i]? = some y := by rw [List.getElem?_eq_getElem hlt, hy]
    have hf := hm.fields y (by rw [hy]; exact List.getElem_mem _)
    simp only [tysD_at ea, oD, laTy]
    intro k5 a5 n5
    refine stP (ds := tyR y) (DSt.set_same _ _ _) (clA _) ⟨rfl, by decide, by simp [tyR]⟩ fun a5 => ?_
    simp only [ofP, oD, Nat.zero_add]
    rw [DSt.set_set, ldP (DSt.set_same _ _ _), show (setManyD [D.int .u8 0, .str [], .nilSlc, .int .i64 0, .int .i64 0] 0 (tyR y)) = tyR y from rfl, show (tyR y)[2]? = some (fldsD y.fields) from rfl, oD]
    refine (Grw.nil _ 2).push (fldsD_rows _ _) (by simp; omega) fun t2 S2 q => ?_
    rw [show aggD (fillD [(.str []), (.int .i64 0)] [(0, 1, (.str markT))]) = some (.agg (fldR (markT, 0))) from rfl, oD, show fillR 2 (List.replicate 1 [(.str []), (.int .i64 0)]) [(0, .agg (fldR (markT, 0)))] = some [fldR (markT, 0)] from rfl]
    refine lit_lst rfl ?_
    refine q.last (news := [fldR (markT, 0)]) rfl (by simp) (by simp; omega) ?_
    rw [ldP (DSt.set_same _ _ _), show (tyR y)[2]? = some (fldsD y.fields) from rfl, oD, fldsD_len, oD, List.nil_append, slcL (by simp), oD, List.take_left' (by simp), List.drop_left' (by simp)]
    refine stP (ds := [fldsX y.fields]) (DSt.set_same _ _ _) (clE _ _ _) ⟨rfl, by decide, by simp [tyR]⟩ fun a6 => ?_
    rw [DSt.set_set, show setManyD (tyR y) 2 [fldsX y.fields] = tyXR y from rfl]
    have ne5 : k5 ≠ k3 := fun e => by rw [e, g3] at n5; cases n5
    rw [ldP (by rw [DSt.set_ne _ _ _ (Ne.symm ne5)]; exact g3), List.getElem?_cons_zero, oD, laP (DSt.set_same _ _ _) (by simp [tyXR]), oD]
    rw [show fillR 5 (List.replicate 1 [(.int .u8 0), (.str []), .nilSlc, (.int .i64 0), (.int .i64 0)]) [(0, .agg (((tyXR y).drop 0).take 5))] = some [tyXR y] from rfl]
    refine lit_lst rfl ?_
    have gu := g.under (o := ⟨[D.int .u8 0, .str [], .nilSlc, .int .i64 0, .int .i64 0].length, [tyXR y], a6⟩) n5
    refine gu.push (news := [tyXR y]) rfl (by simp; omega) fun t' S3 g' => ?_
    have hB3 : (B.set k5 ⟨[D.int .u8 0, .str [], .nilSlc, .int .i64 0, .int .i64 0].length, [tyXR y], a6⟩) k3 = some ⟨3, [[t, .nilSlc, .nilSlc]], c3⟩ := by rw [DSt.set_ne _ _ _ (Ne.symm ne5)]; exact h3
    refine stP (ds := [t']) (g'.le _ _ hB3) (Grw.cells g') ⟨rfl, by decide, by simp⟩ fun a7 => ?_
    rw [biAdd, oD, wrap_i64 (by omega) (by omega)]
    have z5 : B k5 = none := by
      cases e : B k5 with
      | none => rfl
      | some o => rw [g.le _ _ e] at n5; cases n5
    have zS : S k5 = none := by
      cases e : S k5 with
      | none => rfl
      | some o => rw [hle _ _ e] at z5; cases z5
    have nk : k5 ≠ k := fun e => by rw [e, h0] at z5; cases z5
    have nk2 : k5 ≠ k2 := fun e => by rw [e, h2] at z5; cases z5
    refine ⟨n' - 1, by omega, by trivial, by trivial, by trivial, i + 1, (B.set k5 ⟨[D.int .u8 0, .str [], .nilSlc, .int .i64 0, .int .i64 0].length, [tyXR y], a6⟩).set k3 ⟨3, [[t', .nilSlc, .nilSlc]], a7⟩, t', a7, rfl, by omega, up (DSt.le_set hle zS), keep (by rw [DSt.set_ne _ _ _ (Ne.symm nk)]; exact h0), keep2 (by rw [DSt.set_ne _ _ _ (Ne.symm nk2)]; exact h2), DSt.set_same _ _ _, ?_⟩
    rw [List.take_add_one, ea, Option.toList_some, List.map_append]
    exact g'.upd hB3
  have hi : i = m.types.length := by omega
  subst hi
  rw [List.take_length] at g
  rw [ldP g3, List.getElem?_cons_zero, oD]
  rw [show aggD (fillD [(.int .u8 0), (.str []), .nilSlc, (.int .i64 0), (.int .i64 0)] [(1, 1, (.str markT))]) = some (.agg markTy) from rfl, oD, show fillR 5 (List.replicate 1 [(.int .u8 0), (.str []), .nilSlc, (.int .i64 0), (.int .i64 0)]) [(0, .agg markTy)] = some [markTy] from rfl]
  refine lit_lst rfl ?_
  refine g.last (news := [markTy]) rfl (by simp) (by simp; omega) ?_
  refine stP (ds := [.lst (m.types.map tyXR ++ [markTy]) 5]) h3 (clL _ _) ⟨rfl, by decide, by simp⟩ fun a7 => ?_
  rw [ldP (DSt.set_same _ _ _), show (setManyD [t, D.nilSlc, .nilSlc] 0 [.lst (m.types.map tyXR ++ [markTy]) 5])[0]? = some (.lst (m.types.map tyXR ++ [markTy]) 5) from rfl, oD, ldP (keep h0), xa0, oD, tysD_len, oD, slcL (by simp), oD, List.take_left' (by simp), List.drop_left' (by simp)]
  refine stP (ds := [tysX m.types]) (DSt.set_same _ _ _) (clE _ _ _) ⟨rfl, by decide, by simp [setManyD]⟩ fun a8 => ?_
  rw [DSt.set_set, show setManyD (setManyD [t, D.nilSlc, .nilSlc] 0 [.lst (m.types.map tyXR ++ [markTy]) 5]) 0 [tysX m.types] = [tysX m.types, .nilSlc, .nilSlc] from rfl]
  rw [ldP (DSt.set_same _ _ _), show ([tysX m.types, D.nilSlc, .nilSlc])[1]? = some .nilSlc from rfl, oD, ldP (keep h0), xa1, oD]
  refine (Grw.nil _ 1).push (txsD_rows _ _) (by simp; omega) fun t2 S2 q => ?_
  refine stP (ds := [t2]) (q.le _ _ (DSt.set_same _ _ _)) (Grw.cells q) ⟨rfl, by decide, by simp⟩ fun a9 => ?_
  have q := q.upd (o := ⟨3, [[tysX m.types, t2, .nilSlc]], a9⟩) (DSt.set_same _ _ _)
  rw [DSt.set_set] at q
  rw [show setManyD [tysX m.types, D.nilSlc, .nilSlc] 1 [t2] = [tysX m.types, t2, .nilSlc] from rfl, ldP (DSt.set_same _ _ _), show ([tysX m.types, t2, D.nilSlc])[1]? = some t2 from rfl, oD]
  rw [show fillR 1 (List.replicate 1 [(.str [])]) [(0, D.str markT)] = some [[.str markT]] from rfl]
  refine lit_lst rfl ?_
  refine q.last (news := [[.str markT]]) rfl (by simp) (by simp; omega) ?_
  rw [List.nil_append]
  refine stP (ds := [.lst (ones (m.texts.map D.str) ++ [[.str markT]]) 1]) (DSt.set_same _ _ _) (clL _ _) ⟨rfl, by decide, by simp⟩ fun a10 => ?_
  rw [DSt.set_set, show setManyD [tysX m.types, t2, .nilSlc] 1 [D.lst (ones (m.texts.map D.str) ++ [[.str markT]]) 1] = [tysX m.types, .lst (ones (m.texts.map D.str) ++ [[.str markT]]) 1, .nilSlc] from rfl, ldP (DSt.set_same _ _ _), show ([tysX m.types, .lst (ones (m.texts.map D.str) ++ [[.str markT]]) 1, D.nilSlc])[1]? = some (.lst (ones (m.texts.map D.str) ++ [[.str markT]]) 1) from rfl, oD, ldP (keep h0), xa1, oD, txsD_len, oD, slcL (by simp), oD, List.take_left' (by simp), List.drop_left' (by simp)]
  refine stP (ds := [txsX m.texts]) (DSt.set_same _ _ _) (clE _ _ _) ⟨rfl, by decide, by simp [setManyD]⟩ fun a11 => ?_
  rw [DSt.set_set, show setManyD [tysX m.types, .lst (ones (m.texts.map D.str) ++ [[.str markT]]) 1, D.nilSlc] 1 [txsX m.texts] = [tysX m.types, txsX m.texts, .nilSlc] from rfl]
  have hB1 : ∃ B1, B1 = B.set k3 ⟨3, [[tysX m.types, txsX m.texts, .nilSlc]], a11⟩ ∧ S.le B1 ∧ B1 k = some ⟨3, [moC m], c⟩ ∧ B1 k2 = some ⟨3, [[.nilSlc, .nilSlc, .nilSlc]], c2⟩ ∧ B1 k3 = some ⟨3, [[tysX m.types, txsX m.texts, .nilSlc]], a11⟩ :=
    ⟨_, rfl, up hle, keep h0, keep2 h2, DSt.set_same _ _ _⟩
  clear g g0 g3 q hge hle h0 h2 h3
  obtain ⟨B1, hB1, hle, h0, h2, h3⟩ := hB1
  rw [← hB1]
  clear hB1
  refine loop_kit_LentModule_1 (I := fun n x1 x2 x3 x4 S' => x1 = .ptr k 0 ∧ x2 = .ptr k2 0 ∧ x3 = .ptr k3 0 ∧ ∃ (i : Nat) (B : DSt) (t : D) (c3 : List AV), x4 = .int .i64 (i : Int) ∧ i + n = m.funcs.length ∧ S.le B ∧ B k = some ⟨3, [moC m], c⟩ ∧ B k2 = some ⟨3, [[.nilSlc, .nilSlc, .nilSlc]], c2⟩ ∧ B k3 = some ⟨3, [[tysX m.types, txsX m.texts, t]], c3⟩ ∧ Grw B t ((m.funcs.take i).map roXR) 6 S') ?_ (n := m.funcs.length)
    ⟨rfl, rfl, rfl, 0, B1, .nilSlc, a11, rfl, by omega, hle, h0, h2, h3, Grw.nil _ _⟩
  clear hle h0 h2 h3 B1
  rintro n' _ _ _ _ S1 ⟨rfl, rfl, rfl, i, B, t, c3, rfl, hi, hle, h0, h2, h3, g⟩
  have g0 := g.le _ _ h0
  have g3 := g.le _ _ h3
  unfold B_kit_LentModule_1
  simp only [ofP, oD, ldP g0, Nat.zero_add, xa2, rosD_len, biLt]
  rw [cdI]
  refine ⟨fun hlt => ?_, fun hge => ?_⟩
  · have hlt : i < m.funcs.length := by omega
    obtain ⟨y, hy⟩ : ∃ y, y = m.funcs[i] := ⟨_, rfl⟩
    have ea : m.funcs[i]? = some y := by rw [List.getElem?_eq_getElem hlt, hy]
    obtain ⟨hf1, hf2, hf3⟩ := hm.params y (by rw [hy]; exact List.getElem_mem _)
    simp only [rosD_at ea, oD, laRo]
    intro k5 a5 n5
    refine stP (ds := roR y) (DSt.set_same _ _ _) (clA _) ⟨rfl, by decide, by simp [roR]⟩ fun a5 => ?_
    simp only [ofP, oD, Nat.zero_add]
    rw [DSt.set_set, ldP (DSt.set_same _ _ _), show (setManyD [D.str [], .nilSlc, .nilSlc, .int .i64 0, .int .i64 0, .nilSlc] 0 (roR y)) = roR y from rfl, show (roR y)[1]? = some (iD y.params) from rfl, oD]
    refine (kit_LentInts_ok hf1).use ?_
    refine stP (ds := [iX y.params]) (DSt.set_same _ _ _) (clE _ _ _) ⟨rfl, by decide, by simp [roR]⟩ fun a6 => ?_
    rw [DSt.set_set, ldP (DSt.set_same _ _ _), show (setManyD (roR y) 1 [iX y.params])[2]? = some (iD y.results) from rfl, oD]
    refine (kit_LentInts_ok hf2).use ?_
    refine stP (ds := [iX y.results]) (DSt.set_same _ _ _) (clE _ _ _) ⟨rfl, by decide, by simp [roR, setManyD]⟩ fun a7 => ?_
    rw [DSt.set_set, ldP (DSt.set_same _ _ _), show (setManyD (setManyD (roR y) 1 [iX y.params]) 2 [iX y.results])[5]? = some (bD y.code) from rfl, oD]
    refine (kit_LentCode_ok hf3).use ?_
    refine stP (ds := [bX y.code]) (DSt.set_same _ _ _) (clE _ _ _) ⟨rfl, by decide, by simp [roR, setManyD]⟩ fun a8 => ?_
    rw [DSt.set_set, show setManyD (setManyD (setManyD (roR y) 1 [iX y.params]) 2 [iX y.results]) 5 [bX y.code] = roXR y from rfl]
    have ne5 : k5 ≠ k3 := fun e => by rw [e, g3] at n5; cases n5
    rw [ldP (by rw [DSt.set_ne _ _ _ (Ne.symm ne5)]; exact g3), show ([tysX m.types, txsX m.texts, t])[2]? = some t from rfl, oD, laP (DSt.set_same _ _ _) (by simp [roXR]), oD]
    rw [show fillR 6 (List.replicate 1 [(.str []), .nilSlc, .nilSlc, (.int .i64 0), (.int .i64 0), .nilSlc]) [(0, .agg (((roXR y).drop 0).take 6))] = some [roXR y] from rfl]
    refine lit_lst rfl ?_
    have gu := g.under (o := ⟨[D.str [], .nilSlc, .nilSlc, .int .i64 0, .int .i64 0, .nilSlc].length, [roXR y], a8⟩) n5
    refine gu.push (news := [roXR y]) rfl (by simp; omega) fun t' S3 g' => ?_
    have hB3 : (B.set k5 ⟨[D.str [], .nilSlc, .nilSlc, .int .i64 0, .int .i64 0, .nilSlc].length, [roXR y], a8⟩) k3 = some ⟨3, [[tysX m.types, txsX m.texts, t]], c3⟩ := by rw [DSt.set_ne _ _ _ (Ne.symm ne5)]; exact h3
    refine stP (ds := [t']) (g'.le _ _ hB3) (Grw.cells g') ⟨rfl, by decide, by simp⟩ fun a9 => ?_
    rw [biAdd, oD, wrap_i64 (by omega) (by omega)]
    have z5 : B k5 = none := by
      cases e : B k5 with
      | none => rfl
      | some o => rw [g.le _ _ e] at n5; cases n5
    have zS : S k5 = none := by
      cases e : S k5 with
      | none => rfl
      | some o => rw [hle _ _ e] at z5; cases z5
    have nk : k5 ≠ k := fun e => by rw [e, h0] at z5; cases z5
    have nk2 : k5 ≠ k2 := fun e => by rw [e, h2] at z5; cases z5
    refine ⟨n' - 1, by omega, by trivial, by trivial, by trivial, i + 1, (B.set k5 ⟨[D.str [], .nilSlc, .nilSlc, .int .i64 0, .int .i64 0, .nilSlc].length, [roXR y], a8⟩).set k3 ⟨3, [[tysX m.types, txsX m.texts, t']], a9⟩, t', a9, rfl, by omega, up (DSt.le_set hle zS), keep (by rw [DSt.set_ne _ _ _ (Ne.symm nk)]; exact h0), keep2 (by rw [DSt.set_ne _ _ _ (Ne.symm nk2)]; exact h2), DSt.set_same _ _ _, ?_⟩
    rw [List.take_add_one, ea, Option.toList_some, List.map_append]
    exact g'.upd hB3
  have hi : i = m.funcs.length := by omega
  subst hi
  rw [List.take_length] at g
  rw [ldP g3, show ([tysX m.types, txsX m.texts, t])[2]? = some t from rfl, oD]
  rw [show aggD (fillD [(.str []), .nilSlc, .nilSlc, (.int .i64 0), (.int .i64 0), .nilSlc] [(0, 1, (.str markT))]) = some (.agg markRo) from rfl, oD, show fillR 6 (List.replicate 1 [(.str []), .nilSlc, .nilSlc, (.int .i64 0), (.int .i64 0), .nilSlc]) [(0, .agg markRo)] = some [markRo] from rfl]
  refine lit_lst rfl ?_
  refine g.last (news := [markRo]) rfl (by simp) (by simp; omega) ?_
  refine stP (ds := [.lst (m.funcs.map roXR ++ [markRo]) 6]) h3 (clL _ _) ⟨rfl, by decide, by simp⟩ fun a7 => ?_
  rw [ldP (DSt.set_same _ _ _), show (setManyD [tysX m.types, txsX m.texts, t] 2 [.lst (m.funcs.map roXR ++ [markRo]) 6])[2]? = some (.lst (m.funcs.map roXR ++ [markRo]) 6) from rfl, oD, ldP (keep h0), xa2, oD, rosD_len, oD, slcL (by simp), oD, List.take_left' (by simp), List.drop_left' (by simp)]
  refine stP (ds := [rosX m.funcs]) (DSt.set_same _ _ _) (clE _ _ _) ⟨rfl, by decide, by simp [setManyD]⟩ fun a8 => ?_
  rw [DSt.set_set, show setManyD (setManyD [tysX m.types, txsX m.texts, t] 2 [D.lst (m.funcs.map roXR ++ [markRo]) 6]) 2 [rosX m.funcs] = [tysX m.types, txsX m.texts, rosX m.funcs] from rfl]
  rw [laP (DSt.set_same _ _ _) (by simp), oD]
  refine stP (ds := [tysX m.types, txsX m.texts, rosX m.funcs]) (keep2 h2) (clA _) ⟨rfl, by decide, by simp⟩ fun a9 => ?_
  rw [laP (DSt.set_same _ _ _) (by simp [setManyD]), oD]
  exact FinD.less (DSt.le_set (up hle) n2') FinD.pure
end
end Go.Proofs.Ytcboaonbfgjmgaa.d
end

section
open Go.Proofs Go Go.Am Go.Op
namespace Go.Proofs.Ytcboaonbfgjmgaa.d
set_option linter.unusedVariables false
set_option linter.unusedSimpArgs false
set_option maxRecDepth 100000
def moXC (m : Mo) : List D := [tysX m.types, txsX m.texts, rosX m.funcs]
theorem slcAll {rows : List (List D)} {row : List D} {sz n : Nat} (h : rows.length = n) : sliceSl sz (.ext rows [row] sz) none (some (.int .i64 ((n + 1 : Nat) : Int))) none = some (.lst (rows ++ [row]) sz) := by
  subst h
  rw [slcE (by simp), List.take_of_length_le (by simp), List.drop_of_length_le (by simp)]
  rfl
theorem idxLast {rows : List (List D)} {row : List D} {sz n : Nat} (h : rows.length = n) : idxSl sz (.lst (rows ++ [row]) sz) (.int .i64 (n : Int)) = some (.elt row 0) := by
  subst h
  exact idxL (by simp)
theorem add1 {n : Nat} (h : n < 2 ^ 60) : IntKind.i64.wrap ((n : Int) + 1) = ((n + 1 : Nat) : Int) := by rw [wrap_i64 (by omega) (by omega)]; omega
theorem idxXE {α : Type} {f : α → List D} {l : List α} {more : List (List D)} {sz i : Nat} {y : α} (h : l[i]? = some y) : idxSl sz (.ext (l.map f) more sz) (.int .i64 (i : Int)) = some (.elt (f y) 0) := idxE (by rw [List.getElem?_map, h]; rfl)
def PureW (P : Program) (E : Env) (w0 : World) (f : FuncId) (ds : List D) (d : D) : Prop := ∀ S, DFn P E w0 false f ds S fun d' S' => d' = d ∧ S' = S
theorem PureW.use {P : Program} {E : Env} {w0 : World} {f : FuncId} {ds : List D} {d : D} (h : PureW P E w0 f ds d) {S : DSt} {K : D → DSt → Prop} (hk : K d S) : DFn P E w0 false f ds S K := (h S).use fun d' S' ⟨a, b⟩ => by subst a b; exact hk
section
variable {E : Env} {w0 : World}
theorem kit_KeptModule_ok {m : Mo} (hm : m.Ok) : PureW Try.prog E w0 f_kit_KeptModule [moX m, moD m] (.bool true) := fun S => by
  refine V_kit_KeptModule_ok ?_
  unfold V_kit_KeptModule
  rw [moX, clA, oD]
  intro k c n
  rw [moD, clA, oD]
  intro k2 c2 n2
  obtain ⟨ne2, n2'⟩ := DSt.fresh n2
  generalize hS3 : (S.set k _).set k2 _ = S3
  have h2 : S3 k2 = some ⟨3, [moC m], c2⟩ := by rw [← hS3]; exact DSt.set_same _ _ _
  have h0 : S3 k = some ⟨3, [moXC m], c⟩ := by rw [← hS3, DSt.set_ne _ _ _ (Ne.symm ne2)]; exact DSt.set_same _ _ _
  have hle : S.le S3 := by rw [← hS3]; exact DSt.le_set (DSt.le_new n) n2'
  clear hS3 n2
  obtain ⟨xa0, xa1, xa2⟩ := moC_at m
  have xb0 : (moXC m)[0]? = some (tysX m.types) := rfl
  have xb1 : (moXC m)[1]? = some (txsX m.texts) := rfl
  have xb2 : (moXC m)[2]? = some (rosX m.funcs) := rfl
  have := hm.types; have := hm.texts; have := hm.funcs
  simp only [ofP, oD, ldP h2, Nat.zero_add, xa0, xa1, xa2, tysD_len, txsD_len, rosD_len]
  refine ⟨by trivial, by trivial, by trivial, by trivial, by trivial, by trivial, ?_⟩
  rw [laP h0 (by simp [moXC]), oD, laP h2 (by simp [moC]), oD]
  refine DF.weak (es := [moD m, moD m]) ⟨moX_wk m, Wk.refl _, trivial⟩ ((kit_SameModule_ok hm hm).use ?_)
  rw [decide_eq_true rfl]
  simp only [unN, Bool.not_true, oD, wdB, t2, vdT, ldP h0, xb0, xb1, xb2, biAdd]
  rw [add1 (by omega)]
  rw [tysX, slcAll (by simp), oD, idxLast (by simp), oD]
  simp only [ofE, oD, lsE, Nat.zero_add, show markTy[1]? = some (D.str markT) from rfl, bsNe, beq_self_eq_true, Bool.not_true, pdB, Bool.false_eq_true, if_false, wdB, t2, vdT, ldP h0, xb1, biAdd]
  rw [add1 (by omega), txsX, slcAll (by simp), oD, idxLast (by simp), oD]
  simp only [ofE, oD, lsE, Nat.zero_add, List.getElem?_cons_zero, bsNe, beq_self_eq_true, Bool.not_true, pdB, Bool.false_eq_true, if_false, wdB, t2, vdT, ldP h0, xb2, biAdd]
  rw [add1 (by omega), rosX, slcAll (by simp), oD, idxLast (by simp), oD]
  simp only [ofE, oD, lsE, Nat.zero_add, show markRo[0]? = some (D.str markT) from rfl, bsNe, beq_self_eq_true, Bool.not_true, pdB, Bool.false_eq_true, if_false, cdF]
  refine loop_kit_KeptModule_0 (I := fun n x2 x3 x5 x7 x8 S' => S3 = S' ∧ x2 = .ptr k 0 ∧ x3 = .ptr k2 0 ∧ x5 = .int .i64 (m.types.length : Int) ∧ x7 = .int .i64 (m.funcs.length : Int) ∧ ∃ i : Nat, x8 = .int .i64 (i : Int) ∧ i + n = m.types.length) ?_ (n := m.types.length) ⟨rfl, rfl, rfl, rfl, rfl, 0, rfl, by omega⟩
  rintro n' _ _ _ _ _ _ ⟨rfl, rfl, rfl, rfl, rfl, i, rfl, hi⟩
  unfold B_kit_KeptModule_0
  rw [biLt, oD, cdI]
  refine ⟨fun hlt => ?_, fun hge => ?_⟩
  · have hlt : i < m.types.length := by omega
    obtain ⟨y, hy⟩ : ∃ y, y = m.types[i] := ⟨_, rfl⟩
    have ea : m.types[i]? = some y := by rw [List.getElem?_eq_getElem hlt, hy]
    have hyk := (hm.ty y (by rw [hy]; exact List.getElem_mem _)).fields
    have ex : idxSl 5 (tysX m.types) (.int .i64 (i : Int)) = some (.elt (tyXR y) 0) := idxXE ea
    simp only [ofP, oD, ldP h2, ldP h0, Nat.zero_add, xa0, xb0, tysD_at ea, ex, ofE, lsE, show (tyR y)[2]? = some (fldsD y.fields) from rfl, show (tyXR y)[2]? = some (fldsX y.fields) from rfl, fldsD_len, biAdd]
    rw [add1 (by omega), fldsX, slcAll (by simp), oD, idxLast (by simp), oD]
    simp only [ofE, oD, lsE, Nat.zero_add, show (fldR (markT, 0))[0]? = some (D.str markT) from rfl, bsNe, beq_self_eq_true, Bool.not_true, cdF]
    rw [add1 (by omega)]
    exact ⟨n' - 1, by omega, by trivial, by trivial, by trivial, by trivial, by trivial, i + 1, rfl, by omega⟩
  clear hge hi
  refine loop_kit_KeptModule_1 (I := fun n x2 x3 x7 x10 S' => S3.le S' ∧ x2 = .ptr k 0 ∧ x3 = .ptr k2 0 ∧ x7 = .int .i64 (m.funcs.length : Int) ∧ ∃ i : Nat, x10 = .int .i64 (i : Int) ∧ i + n = m.funcs.length) ?_ (n := m.funcs.length) ⟨DSt.le_refl _, rfl, rfl, rfl, 0, rfl, by omega⟩
  clear i n'
  rintro n' _ _ _ _ S4 ⟨hle4, rfl, rfl, rfl, i, rfl, hi⟩
  have h04 := hle4 _ _ h0
  have h24 := hle4 _ _ h2
  unfold B_kit_KeptModule_1
  rw [biLt, oD, cdI]
  refine ⟨fun hlt => ?_, fun hge => FinD.less (DSt.le_trans hle hle4) FinD.pure⟩
  have hlt : i < m.funcs.length := by omega
  obtain ⟨y, hy⟩ : ∃ y, y = m.funcs[i] := ⟨_, rfl⟩
  have ea : m.funcs[i]? = some y := by rw [List.getElem?_eq_getElem hlt, hy]
  have hyk := hm.ro y (by rw [hy]; exact List.getElem_mem _)
  have ex : idxSl 6 (rosX m.funcs) (.int .i64 (i : Int)) = some (.elt (roXR y) 0) := idxXE ea
  have lx : ∀ S : DSt, loadAg S 6 (.elt (roXR y) 0) = some (.agg (roXR y)) := fun _ => rfl
  have rest : ∀ (ka kb : Nat) (S5 : DSt) (aa ab : List AV), S4.le S5 → S5 ka = some ⟨6, [roXR y], aa⟩ → S5 kb = some ⟨6, [roR y], ab⟩ → C_kit_KeptModule_28 E w0 false (fun x2 x3 x7 x10 S' => ∃ m_1, m_1 < n' ∧ S3.le S' ∧ x2 = .ptr k 0 ∧ x3 = .ptr k2 0 ∧ x7 = .int .i64 (m.funcs.length : Int) ∧ ∃ i : Nat, x10 = .int .i64 (i : Int) ∧ i + m_1 = m.funcs.length) (FinD E fun d' S' => d' = .bool true ∧ S' = S) (.ptr k 0) (.ptr k2 0) (.int .i64 (m.funcs.length : Int)) (.int .i64 (i : Int)) (.ptr ka 0) (.ptr kb 0) S5 := by
    intro ka kb S5 aa ab l5 ha hb
    refine C_kit_KeptModule_28_ok ?_
    unfold P_kit_KeptModule_28
    have p1 := hyk.params; have p2 := hyk.results; have p3 := hyk.code
    simp only [ofP, oD, ldP ha, ldP hb, Nat.zero_add, show (roXR y)[1]? = some (iX y.params) from rfl, show (roR y)[1]? = some (iD y.params) from rfl]
    refine (kit_KeptInts_ok (by omega)).use ?_
    simp only [unN, Bool.not_true, oD, wdB, t2, vdT, ldP ha, ldP hb, show (roXR y)[2]? = some (iX y.results) from rfl, show (roR y)[2]? = some (iD y.results) from rfl, gdT]
    refine (kit_KeptInts_ok (by omega)).use ?_
    simp only [unN, Bool.not_true, oD, wdB, t2, vdT, pdB, Bool.false_eq_true, if_false, ldP ha, ldP hb, show (roXR y)[5]? = some (bX y.code) from rfl, show (roR y)[5]? = some (bD y.code) from rfl, gdT]
    refine (kit_KeptCode_ok (by omega)).use ?_
    simp only [unN, Bool.not_true, oD, pdB, Bool.false_eq_true, if_false, cdF, biAdd]
    rw [add1 (by omega)]
    exact ⟨n' - 1, by omega, DSt.le_trans hle4 l5, by trivial, by trivial, by trivial, i + 1, rfl, by omega⟩
  refine ⟨rfl, ?_, ?_, trivial⟩
  · simp only [ofP, oD, ldP h04, ldP h24, Nat.zero_add, xa2, xb2, ex, rosD_at ea, lx, laRo]
    refine ⟨by trivial, by trivial, by trivial, by trivial, ?_⟩
    intro k5 a5 n5
    have nk : k ≠ k5 := fun e => by rw [← e, h04] at n5; cases n5
    have nk2 : k2 ≠ k5 := fun e => by rw [← e, h24] at n5; cases n5
    have f5 : ∀ {S' : DSt} {o : DObj}, S' k = S4 k → (S'.set k5 o) k = S4 k := fun h => by rw [DSt.set_ne _ _ _ nk]; exact h
    have f5' : ∀ {S' : DSt} {o : DObj}, S' k2 = S4 k2 → (S'.set k5 o) k2 = S4 k2 := fun h => by rw [DSt.set_ne _ _ _ nk2]; exact h
    refine ⟨⟨f5 rfl, trivial, f5' rfl, trivial, trivial⟩, ?_⟩
    intro k6 a6 n6
    obtain ⟨ne6, n6'⟩ := DSt.fresh n6
    have mk : k ≠ k6 := fun e => by rw [← e, h04] at n6'; cases n6'
    have mk2 : k2 ≠ k6 := fun e => by rw [← e, h24] at n6'; cases n6'
    have f6 : ∀ {S' : DSt} {o : DObj}, S' k = S4 k → (S'.set k6 o) k = S4 k := fun h => by rw [DSt.set_ne _ _ _ mk]; exact h
    have f6' : ∀ {S' : DSt} {o : DObj}, S' k2 = S4 k2 → (S'.set k6 o) k2 = S4 k2 := fun h => by rw [DSt.set_ne _ _ _ mk2]; exact h
    refine ⟨⟨f6 (f5 rfl), trivial, f6' (f5' rfl), trivial, trivial⟩, ?_⟩
    refine stP (ds := roXR y) (by rw [DSt.set_ne _ _ _ (Ne.symm ne6)]; exact DSt.set_same _ _ _) (clA _) ⟨rfl, by decide, by simp [roXR]⟩ fun a7 => ?_
    refine ⟨⟨f5' (f6' (f5' rfl)), trivial, trivial⟩, ?_⟩
    refine stP (ds := roR y) (by rw [DSt.set_ne _ _ _ ne6]; exact DSt.set_same _ _ _) (clA _) ⟨rfl, by decide, by simp [roR]⟩ fun a8 => ⟨by trivial, ?_⟩
    refine rest k5 k6 _ a7 a8 ?_ (by rw [DSt.set_ne _ _ _ (Ne.symm ne6)]; exact DSt.set_same _ _ _) (DSt.set_same _ _ _)
    exact DSt.le_set (DSt.le_set (DSt.le_set (DSt.le_new n5) n6') n5) n6'
  · simp only [ofP, oD, ldP h04, ldP h24, Nat.zero_add, xa2, xb2, ex, rosD_at ea, lx, laRo]
    refine ⟨by trivial, by trivial, by trivial, by trivial, ?_⟩
    intro k5 a5 n5
    have nk : k ≠ k5 := fun e => by rw [← e, h04] at n5; cases n5
    have nk2 : k2 ≠ k5 := fun e => by rw [← e, h24] at n5; cases n5
    have f5 : ∀ {S' : DSt} {o : DObj}, S' k = S4 k → (S'.set k5 o) k = S4 k := fun h => by rw [DSt.set_ne _ _ _ nk]; exact h
    have f5' : ∀ {S' : DSt} {o : DObj}, S' k2 = S4 k2 → (S'.set k5 o) k2 = S4 k2 := fun h => by rw [DSt.set_ne _ _ _ nk2]; exact h
    refine ⟨⟨f5 rfl, trivial, f5' rfl, trivial, trivial⟩, ?_⟩
    intro k6 a6 n6
    obtain ⟨ne6, n6'⟩ := DSt.fresh n6
    have mk : k ≠ k6 := fun e => by rw [← e, h04] at n6'; cases n6'
    have mk2 : k2 ≠ k6 := fun e => by rw [← e, h24] at n6'; cases n6'
    have f6 : ∀ {S' : DSt} {o : DObj}, S' k = S4 k → (S'.set k6 o) k = S4 k := fun h => by rw [DSt.set_ne _ _ _ mk]; exact h
    have f6' : ∀ {S' : DSt} {o : DObj}, S' k2 = S4 k2 → (S'.set k6 o) k2 = S4 k2 := fun h => by rw [DSt.set_ne _ _ _ mk2]; exact h
    refine ⟨⟨f6 (f5 rfl), trivial, f6' (f5' rfl), trivial, trivial⟩, ?_⟩
    refine stP (ds := roXR y) (DSt.set_same _ _ _) (clA _) ⟨rfl, by decide, by simp [roXR]⟩ fun a7 => ?_
    refine ⟨⟨f6' (f6' (f5' rfl)), trivial, trivial⟩, ?_⟩
    rw [DSt.set_set]
    refine stP (ds := roR y) (by rw [DSt.set_ne _ _ _ (Ne.symm ne6)]; exact DSt.set_same _ _ _) (clA _) ⟨rfl, by decide, by simp [roR]⟩ fun a8 => ⟨by trivial, ?_⟩
    refine rest k6 k5 _ a7 a8 ?_ (by rw [DSt.set_ne _ _ _ ne6]; exact DSt.set_same _ _ _) (DSt.set_same _ _ _)
    exact DSt.le_set (DSt.le_set (DSt.le_new n5) n6') n5
end
end Go.Proofs.Ytcboaonbfgjmgaa.d
end
