/-
  Texts Gh Gi Gj Gk Ec, as far as they are used.
-/
import Derived.Test.YtchnpgddpaonhaaUbe
import Derived.Test.YtchnpgddpaonhaaUbf
import Derived.Test.YtchnpgddpaonhaaUay
import Derived.Test.YtchnpgddpaonhaaUax
import Derived.Test.YtchnpgddpaonhaaUam
import Derived.SizedLaws
section
open Go.Proofs Go Go.Am Go.Op
namespace Go.Proofs.Ytchnpgddpaonhaa.d
set_option linter.unusedVariables false
set_option linter.unusedSimpArgs false
set_option maxRecDepth 100000
def bytesOf (s : Tx) : List Int := s.map fun b => (b.toNat : Int)
def textS (s : Tx) : List Int := numS s.length ++ bytesOf s
def numsS (l : List Int) : List Int := numS l.length ++ l.flatMap numS
def fldB' (f : Tx × Int) : List Int := textS f.1 ++ numS f.2
def tyB (t : Ty) : List Int := t.kind :: if t.kind = 6 then textS t.name ++ (numS t.fields.length ++ t.fields.flatMap fldB') else numS t.elem ++ if t.kind = 7 then numS t.len else []
def roB (r : Ro) : List Int := textS r.name ++ (numsS r.params ++ (numsS r.results ++ (numS r.locals ++ (numS r.stack ++ textS (strB r.code)))))
/-- A module's body. -/
def bodyS (m : Mo) : List Int := numS m.types.length ++ (m.types.flatMap tyB ++ (numS m.texts.length ++ (m.texts.flatMap textS ++ (numS m.funcs.length ++ m.funcs.flatMap roB))))
/-- What is written, as far as it is no more than the most and one. -/
def WOk (L I : List Int) : Prop := (I.length ≤ 2097153 ∧ L = I) ∨ (2097153 < I.length ∧ L.length = 2097153)
theorem WOk.len {L I : List Int} (h : WOk L I) : L.length ≤ 2097153 := by
  rcases h with ⟨h, rfl⟩ | ⟨_, h⟩ <;> omega
theorem flatMap_snoc {α : Type} {f : α → List Int} {l : List α} {i : Nat} {a : α} (h : l[i]? = some a) : (l.take (i + 1)).flatMap f = (l.take i).flatMap f ++ f a := by
  rw [List.take_add_one, h, List.flatMap_append]; simp
/-- Where a writer stands: what it was handed in all, and what stays beside it. -/
def WAt (S : DSt) (kw : Nat) (av : List Nat) (I : List Int) (T : DSt) : Prop := S.le T ∧ S kw = none ∧ kw ∉ av ∧ (∀ j ∈ av, T j ≠ none) ∧ ∃ (L : List Int) (t : D), WOk L I ∧ Cel T kw 1 [t] ∧ GrA S (kw :: av) t (ones (L.map (D.int .u8))) 1 T
section
variable {E : Env} {w0 : World} {S T : DSt} {kw : Nat} {av : List Nat} {I : List Int}
theorem WAt.more (h : WAt S kw av I T) {l : Nat} {o : DObj} (hl : T l = none) : WAt S kw (l :: av) I (T.set l o) := by
  obtain ⟨h1, h2, h3, h4, L, t, h5, h6, h7⟩ := h
  have ne : kw ≠ l := h6.none hl
  have nt : ∀ j ∈ ob t, j ≠ l := fun j hj e => h7.ob_some j hj (by rw [e]; exact hl)
  refine ⟨DSt.le_set h1 (DSt.none_of h1 hl), h2, fun hm => ?_, fun j hj => ?_, L, t, h5, h6.set hl, h7.apart (fun j hj => DSt.set_ne _ _ _ (nt j hj)) fun j hj hm => ?_⟩
  · rcases List.mem_cons.1 hm with e | hm
    · exact ne e
    · exact h3 hm
  · rcases List.mem_cons.1 hj with rfl | hj
    · rw [DSt.set_same]; simp
    · rw [DSt.set_ne _ _ _ fun e => h4 j hj (by rw [e]; exact hl)]; exact h4 j hj
  · have := h7.ob_av j hj
    rcases List.mem_cons.1 hm with e | hm
    · exact this (by simp [e])
    · rcases List.mem_cons.1 hm with e | hm
      · exact nt j hj e
      · exact this (by simp [hm])
theorem WAt.upd (h : WAt S kw av I T) {l : Nat} {o : DObj} (hl : l ∈ av) (hS : S l = none) : WAt S kw av I (T.set l o) := by
  obtain ⟨h1, h2, h3, h4, L, t, h5, h6, h7⟩ := h
  have ne : kw ≠ l := fun e => h3 (by rw [e]; exact hl)
  refine ⟨DSt.le_set h1 hS, h2, h3, fun j hj => ?_, L, t, h5, h6.set_ne ne, h7.set (.inl (by simp [hl]))⟩
  by_cases e : j = l
  · subst e; rw [DSt.set_same]; simp
  · rw [DSt.set_ne _ _ _ e]; exact h4 j hj
theorem WAt.less (h : WAt S kw av I T) {av' : List Nat} (ha : ∀ j ∈ av', j ∈ av) : WAt S kw av' I T := by
  obtain ⟨h1, h2, h3, h4, L, t, h5, h6, h7⟩ := h
  refine ⟨h1, h2, fun hm => h3 (ha _ hm), fun j hj => h4 j (ha j hj), L, t, h5, h6, h7.apart (fun _ _ => rfl) fun j hj hm => ?_⟩
  have := h7.ob_av j hj
  rcases List.mem_cons.1 hm with e | hm
  · exact this (by simp [e])
  · exact this (by simp [ha j hm])
theorem put_ok {x : Bool} (h : WAt S kw av I T) {b : List Int} (hb : b.length < 2 ^ 40) : DFn Try.prog E w0 x f_image_writer_put [.ptr kw 0, bD b] T fun _ T' => WAt S kw av (I ++ b) T' ∧ ∀ j ∈ av, T' j = T j := by
  obtain ⟨h1, h2, h3, h4, L, t, h5, h6, h7⟩ := h
  have hL := h5.len
  refine V_image_writer_put_ok ?_
  unfold V_image_writer_put
  have ld : loadSc T (.ptr kw 0) = some t := h6.ld 0
  have hlen : lenSl t = some (.int .i64 (L.length : Int)) := by rw [h7.len]; simp
  -- the put itself
  have go : ∀ {v : D} {b' : List Int} {T' : DSt}, T' = T → rowsS T 1 v = some (ones (b'.map (D.int .u8))) → WOk (L ++ b') (I ++ b) → (L ++ b').length ≤ 2097153 → C_image_writer_put_4 E w0 x (FinD E fun _ T' => WAt S kw av (I ++ b) T' ∧ ∀ j ∈ av, T' j = T j) (.ptr kw 0) v T' := fun {v b' T'} hT hv hw hwl => by
    subst hT
    rw [List.length_append] at hwl
    refine C_image_writer_put_4_ok ?_
    unfold P_image_writer_put_4
    simp only [ndP, ofP, oD, Nat.zero_add, ld]
    by_cases hn : b' = []
    · have hskip : ∀ K : D → DSt → Prop, K t T' → appendD T' 1 1 t v K := fun K hK => by
        simp only [appendD, hv, hn, List.map_nil]
        rcases h7 with ⟨rfl, _⟩ | ⟨k, acs, _, _, rfl, _⟩ <;> exact hK
      refine hskip _ ?_
      refine h6.st h7.cells ⟨rfl, by decide, by simp⟩ fun a => FinD.here ⟨⟨DSt.le_set h1 h2, h2, h3, fun j hj => ?_, L ++ b', t, hw, Cel.new, ?_⟩, fun j hj => DSt.set_ne _ _ _ fun e => h3 (by rw [← e]; exact hj)⟩
      · rw [DSt.set_ne _ _ _ fun e => h3 (by rw [← e]; exact hj)]; exact h4 j hj
      · rw [hn, List.append_nil]; exact h7.set (.inl (by simp))
    · refine h7.push h1 (fun j hj => ?_) hv (by simpa [ones] using hn) (by simp only [ones_length, List.length_map]; omega) fun t' T2 hle he hg => ?_
      · rcases List.mem_cons.1 hj with rfl | hj
        · exact h6.there
        · exact h4 j hj
      refine (h6.of (he kw (by simp))).st hg.cells ⟨rfl, by decide, by simp⟩ fun a => FinD.here ⟨⟨DSt.le_set hle h2, h2, h3, fun j hj => ?_, L ++ b', t', hw, Cel.new, ?_⟩, fun j hj => ?_⟩
      · rw [DSt.set_ne _ _ _ fun e => h3 (by rw [← e]; exact hj), he j (by simp [hj])]; exact h4 j hj
      · rw [List.map_append, ones_append]; exact hg.set (.inl (by simp))
      · rw [DSt.set_ne _ _ _ fun e => h3 (by rw [← e]; exact hj), he j (by simp [hj])]
  simp only [bD_len, ndP, ofP, oD, Nat.zero_add, ld, hlen, biSub]
  rw [wrap_i64 (by omega) (by omega), biGt, oD, cdI]
  refine ⟨fun hgt => ?_, fun hle => ?_⟩
  · have hgt : 2097153 < L.length + b.length := by omega
    simp only [makeD]
    rw [if_pos ⟨by omega, Int.le_refl _, by omega, by omega⟩]
    obtain ⟨z, hz⟩ : ∃ z : Nat, (2097153 : Int) - (L.length : Int) = (z : Int) := ⟨2097153 - L.length, by omega⟩
    rw [hz, Int.toNat_natCast]
    refine .inl ?_
    have hrep : (List.replicate z [D.int .u8 0]).take z = ones ((List.replicate z (0 : Int)).map (D.int .u8)) := by
      rw [List.take_of_length_le (by simp)]; simp [ones]
    rw [hrep]
    refine go (b' := List.replicate z 0) rfl (by simp [rowsS, rowsOf]) (.inr ⟨?_, ?_⟩) (by simp; omega)
    · rw [List.length_append]
      rcases h5 with ⟨_, rfl⟩ | ⟨h, _⟩ <;> omega
    · simp; omega
  · have hle : L.length + b.length ≤ 2097153 := by omega
    refine go rfl (bD_rows _ _) ?_ (by rw [List.length_append]; omega)
    rcases h5 with ⟨_, rfl⟩ | ⟨h, hl⟩
    · exact .inl ⟨by rw [List.length_append]; omega, rfl⟩
    · have hb0 : b = [] := List.length_eq_zero_iff.1 (by omega)
      subst hb0
      rw [List.append_nil, List.append_nil]
      exact .inr ⟨h, hl⟩
theorem putF_len : ∀ f n, (putF f n).length ≤ f + 1
  | 0, n => by simp [putF]
  | f + 1, n => by
    rw [putF]
    split
    · simp
    · have := putF_len f (n / 128)
      simp; omega
theorem numS_len (n : Int) : (numS n).length ≤ 10 := putF_len _ _
theorem number_ok {x : Bool} (h : WAt S kw av I T) {n : Int} : DFn Try.prog E w0 x f_image_writer_number [.ptr kw 0, .int .i64 n] T fun _ T' => WAt S kw av (I ++ numS n) T' ∧ ∀ j ∈ av, T' j = T j := by
  refine V_image_writer_number_ok ?_
  unfold V_image_writer_number
  rw [cvI, oD, u64_cast]
  refine (wire_Put_ok (by omega)).use ?_
  have := numS_len n
  exact (put_ok h (b := numS n) (by omega)).use fun v T' hq => FinD.here hq
theorem wtext_ok {x : Bool} (h : WAt S kw av I T) {s : Tx} (hs : s.length ≤ 65536) : DFn Try.prog E w0 x f_image_writer_text [.ptr kw 0, .str s] T fun _ T' => WAt S kw av (I ++ textS s) T' ∧ ∀ j ∈ av, T' j = T j := by
  refine V_image_writer_text_ok ?_
  unfold V_image_writer_text
  rw [lnS, oD]
  refine (number_ok h).use ?_
  rintro v T1 ⟨h1, e1⟩
  rw [oD, biGt, oD, decide_eq_false (by omega), cdF]
  refine C_image_writer_text_6_ok ?_
  unfold P_image_writer_text_6
  simp only [bytesD]
  rw [if_pos (by omega)]
  refine .inl ?_
  have e : (D.lst ((s.map fun b => [D.int .u8 (b.toNat : Int)]).take s.length) 1) = bD (bytesOf s) := by
    rw [List.take_of_length_le (by simp)]
    simp [bD, bytesOf, ones, Function.comp_def]
  rw [e]
  refine (put_ok h1 (b := bytesOf s) (by simp [bytesOf]; omega)).use ?_
  rintro v T2 ⟨h2, e2⟩
  refine FinD.here ⟨?_, fun j hj => by rw [e2 j hj, e1 j hj]⟩
  unfold textS
  rw [← List.append_assoc]; exact h2
theorem numbers_ok {x : Bool} (h : WAt S kw av I T) {l : List Int} (hl : l.length < 2 ^ 40) : DFn Try.prog E w0 x f_image_writer_numbers [.ptr kw 0, iD l] T fun _ T' => WAt S kw av (I ++ numsS l) T' ∧ ∀ j ∈ av, T' j = T j := by
  refine V_image_writer_numbers_ok ?_
  unfold V_image_writer_numbers
  rw [iD_len, oD]
  refine (number_ok h).use ?_
  rintro v T1 ⟨h1, e1⟩
  rw [oD]
  refine loop_image_writer_numbers_0 (I := fun n x0 x10 x11 x12 T2 => x0 = .ptr kw 0 ∧ x10 = iD l ∧ x11 = .int .i64 (l.length : Int) ∧ ∃ i : Nat, x12 = .int .i64 (i : Int) ∧ i + n = l.length ∧ WAt S kw av (I ++ numS l.length ++ (l.take i).flatMap numS) T2 ∧ ∀ j ∈ av, T2 j = T j) ?_ (n := l.length)
    ⟨rfl, rfl, rfl, 0, rfl, by omega, by simpa using h1, e1⟩
  rintro n _ _ _ _ T2 ⟨rfl, rfl, rfl, i, rfl, hi, h2, e2⟩
  unfold B_image_writer_numbers_0
  rw [biLt, oD, cdI]
  refine ⟨fun hlt => ?_, fun hge => ?_⟩
  · have hlt : i < l.length := by omega
    have ei : l[i]? = some l[i] := List.getElem?_eq_getElem hlt
    rw [iD_at ei, oD, lsE, List.getElem?_cons_zero, oD]
    refine (number_ok h2).use ?_
    rintro v T3 ⟨h3, e3⟩
    rw [biAdd, oD, wrap_i64 (by omega) (by omega)]
    exact ⟨n - 1, by omega, rfl, rfl, rfl, i + 1, rfl, by omega, by rw [flatMap_snoc ei, ← List.append_assoc]; exact h3, fun j hj => by rw [e3 j hj, e2 j hj]⟩
  · rw [List.take_of_length_le (by omega), List.append_assoc] at h2
    exact FinD.here ⟨h2, e2⟩
/-- What a body needs: texts that are no longer than they may be. -/
structure Mo.Brief (m : Mo) : Prop where
  ty : ∀ t ∈ m.types, t.name.length ≤ 65536 ∧ t.fields.length ≤ 32 ∧ ∀ f ∈ t.fields, f.1.length ≤ 65536
  tx : ∀ t ∈ m.texts, t.length ≤ 65536
  ro : ∀ r ∈ m.funcs, r.name.length ≤ 65536 ∧ r.params.length ≤ 32 ∧ r.results.length ≤ 8 ∧ r.code.length ≤ 65536
theorem image_body_ok {m : Mo} (hm : m.Fits) (hb : m.Brief) {x : Bool} {S : DSt} : DFn Try.prog E w0 x f_image_body [moD m] S fun d S' => S' = S ∧ ∃ L, WOk L (bodyS m) ∧ d = bD L := by
  refine V_image_body_ok ?_
  unfold V_image_body
  rw [moD, clA, oD]
  intro k a n
  have c0 : Cel (S.set k ⟨3, [moC m], a⟩) k 3 (moC m) := Cel.new
  have le0 : S.le (S.set k ⟨3, [moC m], a⟩) := DSt.le_new n
  rw [show (moC m).length = 3 from rfl]
  intro kw aw nw
  have hw0 : WAt S kw [k] [] ((S.set k ⟨3, [moC m], a⟩).set kw ⟨1, [[.nilSlc]], aw⟩) := by
    obtain ⟨ne, nw'⟩ := DSt.fresh nw
    exact ⟨DSt.le_set le0 nw', nw', by simpa using ne, fun j hj => by simp only [List.mem_singleton] at hj; subst hj; exact (c0.set nw).there, [], .nilSlc, .inl ⟨by simp, rfl⟩, Cel.new, GrA.nil⟩
  have c1 := c0.set (o := ⟨1, [[.nilSlc]], aw⟩) nw
  change optW _ _
  rw [show ([D.nilSlc] : List D).length = 1 from rfl]
  generalize (S.set k ⟨3, [moC m], a⟩).set kw ⟨1, [[.nilSlc]], aw⟩ = T0 at *
  have q0 : (moC m)[0]? = some (tysD m.types) := rfl
  have q1 : (moC m)[1]? = some (txsD m.texts) := rfl
  have q2 : (moC m)[2]? = some (rosD m.funcs) := rfl
  have t0 := hm.types
  have t1 := hm.texts
  have t2 := hm.funcs
  simp only [ofP, oD, Nat.zero_add, c1.ld, q0, tysD_len]
  refine (number_ok hw0).use ?_
  rintro v T1 ⟨h1, e1⟩
  have c1 := c1.of (e1 k (by simp))
  rw [c1.ld, q0, oD, tysD_len, oD]
  refine loop_image_body_0 (I := fun n x1 x3 x19 x20 x21 T => x1 = .ptr k 0 ∧ x3 = .ptr kw 0 ∧ x19 = tysD m.types ∧ x20 = .int .i64 (m.types.length : Int) ∧ ∃ i : Nat, x21 = .int .i64 (i : Int) ∧ i + n = m.types.length ∧ WAt S kw [k] (numS m.types.length ++ (m.types.take i).flatMap tyB) T ∧ Cel T k 3 (moC m)) ?_ (n := m.types.length)
    ⟨rfl, rfl, rfl, rfl, 0, rfl, by omega, by simpa using h1, c1⟩
  rintro n _ _ _ _ _ T ⟨rfl, rfl, rfl, rfl, i, rfl, hi, hw, cm⟩
  unfold B_image_body_0
  rw [biLt, oD, cdI]
  refine ⟨fun hlt => ?_, fun hge => ?_⟩
  · have hlt : i < m.types.length := by omega
    obtain ⟨t, ht⟩ : ∃ t, t = m.types[i] := ⟨_, rfl⟩
    have et : m.types[i]? = some t := by rw [List.getElem?_eq_getElem hlt, ht]
    have htm : t ∈ m.types := by rw [ht]; exact List.getElem_mem _
    obtain ⟨b1, b2, b3⟩ := hb.ty t htm
    rw [tysD_at et, oD, laTy, oD]
    intro k2 a2 n2
    refine (Cel.new (sz := 5) (c := [(.int .u8 0), (.str []), .nilSlc, (.int .i64 0), (.int .i64 0)])).st (ds := tyR t) (clA _) ⟨rfl, by decide, by decide⟩ fun a2 => ?_
    rw [DSt.set_set, show setManyD [(D.int .u8 0), (.str []), .nilSlc, (.int .i64 0), (.int .i64 0)] 0 (tyR t) = tyR t from rfl]
    have c5 : Cel (T.set k2 ⟨5, [tyR t], a2⟩) k2 5 (tyR t) := Cel.new
    have hw2 := hw.more (o := ⟨5, [tyR t], a2⟩) n2
    have cm2 := cm.set (o := ⟨5, [tyR t], a2⟩) n2
    generalize T.set k2 ⟨5, [tyR t], a2⟩ = T2 at *
    have p0 : (tyR t)[0]? = some (.int .u8 t.kind) := rfl
    have p1 : (tyR t)[1]? = some (.str t.name) := rfl
    have p2 : (tyR t)[2]? = some (fldsD t.fields) := rfl
    have p3 : (tyR t)[3]? = some (.int .i64 t.elem) := rfl
    have p4 : (tyR t)[4]? = some (.int .i64 t.len) := rfl
    rw [ofP, oD, Nat.zero_add, c5.ld, p0, oD, show fillR 1 (List.replicate 1 [D.int .u8 0]) [(0, .int .u8 t.kind)] = some (ones ([t.kind].map (D.int .u8))) from rfl]
    refine lit_lst rfl ?_
    refine (show DFn Try.prog E w0 x f_image_writer_put [.ptr kw 0, bD [t.kind]] T2 _ from (put_ok hw2 (b := [t.kind]) (by simp)).use ?_)
    rintro v T3 ⟨h3, e3⟩
    have c5 := c5.of (e3 k2 (by simp))
    have cm3 := cm2.of (e3 k (by simp))
    have next : ∀ {T4 : DSt} {rest : List Int}, tyB t = t.kind :: rest → WAt S kw [k2, k] (numS m.types.length ++ (m.types.take i).flatMap tyB ++ [t.kind] ++ rest) T4 → Cel T4 k 3 (moC m) →
        (fun (x1 x3 x19 x20 x21 : D) (T : DSt) => ∃ m_1, m_1 < n ∧ x1 = D.ptr k 0 ∧ x3 = D.ptr kw 0 ∧ x19 = tysD m.types ∧ x20 = .int .i64 (m.types.length : Int) ∧ ∃ i : Nat, x21 = .int .i64 (i : Int) ∧ i + m_1 = m.types.length ∧ WAt S kw [k] (numS m.types.length ++ (m.types.take i).flatMap tyB) T ∧ Cel T k 3 (moC m))
          (D.ptr k 0) (D.ptr kw 0) (tysD m.types) (D.int .i64 (m.types.length : Int)) (D.int .i64 ((i : Int) + 1)) T4 := fun {T4 rest} he hw4 cm4 => by
      refine ⟨n - 1, by omega, rfl, rfl, rfl, rfl, i + 1, rfl, by omega, ?_, cm4⟩
      rw [flatMap_snoc et, he]
      have := hw4.less (av' := [k]) (by simp)
      simpa using this
    rw [ofP, oD, Nat.zero_add, c5.ld, p0, oD, biEqD, oD, cdI]
    refine ⟨fun k6 => ?_, fun k6 => ?_⟩
    · rw [ofP, oD, c5.ld, p1, oD]
      refine (wtext_ok h3 b1).use ?_
      rintro v T4 ⟨h4, e4⟩
      have c5 := c5.of (e4 k2 (by simp))
      have cm4 := cm3.of (e4 k (by simp))
      simp only [ofP, oD, Nat.zero_add, c5.ld, p2, fldsD_len]
      refine (number_ok h4).use ?_
      rintro v T5 ⟨h5, e5⟩
      have c5 := c5.of (e5 k2 (by simp))
      have cm5 := cm4.of (e5 k (by simp))
      simp only [ofP, oD, Nat.zero_add, c5.ld, p2, fldsD_len]
      refine loop_image_body_1 (I := fun c x1 x3 x19 x20 x21 x43 x44 x45 T => x1 = .ptr k 0 ∧ x3 = .ptr kw 0 ∧ x19 = tysD m.types ∧ x20 = .int .i64 (m.types.length : Int) ∧ x21 = .int .i64 (i : Int) ∧ x43 = fldsD t.fields ∧ x44 = .int .i64 (t.fields.length : Int) ∧ ∃ j : Nat, x45 = .int .i64 (j : Int) ∧ j + c = t.fields.length ∧
          WAt S kw [k2, k] (numS m.types.length ++ (m.types.take i).flatMap tyB ++ [t.kind] ++ (textS t.name ++ (numS t.fields.length ++ (t.fields.take j).flatMap fldB'))) T ∧ Cel T k 3 (moC m)) ?_ (n := t.fields.length)
        ⟨rfl, rfl, rfl, rfl, rfl, rfl, rfl, 0, rfl, by omega, by simpa using h5, cm5⟩
      rintro c _ _ _ _ _ _ _ _ T6 ⟨rfl, rfl, rfl, rfl, rfl, rfl, rfl, j, rfl, hj, hw6, cm6⟩
      unfold B_image_body_1
      rw [biLt, oD, cdI]
      refine ⟨fun hjl => ?_, fun hjg => ?_⟩
      · have hjl : j < t.fields.length := by omega
        obtain ⟨f, hf⟩ : ∃ f, f = t.fields[j] := ⟨_, rfl⟩
        have ef : t.fields[j]? = some f := by rw [List.getElem?_eq_getElem hjl, hf]
        have hfm : f ∈ t.fields := by rw [hf]; exact List.getElem_mem _
        rw [fldsD_at ef, oD, laFld, oD]
        intro k3 a3 n3
        refine (Cel.new (sz := 2) (c := [(.str []), (.int .i64 0)])).st (ds := fldR f) (clA _) ⟨rfl, by decide, by decide⟩ fun a3 => ?_
        rw [DSt.set_set, show setManyD [(D.str []), (.int .i64 0)] 0 (fldR f) = fldR f from rfl]
        have c7 : Cel (T6.set k3 ⟨2, [fldR f], a3⟩) k3 2 (fldR f) := Cel.new
        have hw7 := hw6.more (o := ⟨2, [fldR f], a3⟩) n3
        have cm7 := cm6.set (o := ⟨2, [fldR f], a3⟩) n3
        generalize T6.set k3 ⟨2, [fldR f], a3⟩ = T7 at *
        rw [ofP, oD, Nat.zero_add, c7.ld, show (fldR f)[0]? = some (.str f.1) from rfl, oD]
        refine (wtext_ok hw7 (b3 f hfm)).use ?_
        rintro v T8 ⟨h8, e8⟩
        have c7 := c7.of (e8 k3 (by simp))
        have cm8 := cm7.of (e8 k (by simp))
        rw [ofP, oD, c7.ld, show (fldR f)[0 + 1]? = some (.int .i64 f.2) from rfl, oD]
        refine (number_ok h8).use ?_
        rintro v T9 ⟨h9, e9⟩
        have cm9 := cm8.of (e9 k (by simp))
        rw [biAdd, oD, wrap_i64 (by omega) (by omega)]
        refine ⟨c - 1, by omega, rfl, rfl, rfl, rfl, rfl, rfl, rfl, j + 1, rfl, by omega, ?_, cm9⟩
        rw [flatMap_snoc ef]
        have := h9.less (av' := [k2, k]) (by simp)
        simpa [fldB'] using this
      · rw [List.take_of_length_le (l := t.fields) (by omega)] at hw6
        rw [biAdd, oD, wrap_i64 (by omega) (by omega)]
        exact next (by unfold tyB; rw [if_pos k6]) hw6 cm6
    · rw [ofP, oD, c5.ld, p3, oD]
      refine (number_ok h3).use ?_
      rintro v T4 ⟨h4, e4⟩
      have c5 := c5.of (e4 k2 (by simp))
      have cm4 := cm3.of (e4 k (by simp))
      rw [ofP, oD, Nat.zero_add, c5.ld, p0, oD, biEqD, oD, cdI]
      refine ⟨fun k7 => ?_, fun k7 => ?_⟩
      · simp only [ofP, oD, Nat.zero_add, c5.ld, p4]
        refine (number_ok h4).use ?_
        rintro v T5 ⟨h5, e5⟩
        have cm5 := cm4.of (e5 k (by simp))
        rw [biAdd, oD, wrap_i64 (by omega) (by omega)]
        obtain ⟨m1, g1, _, _, _, _, i1, g2⟩ := next (rest := numS t.elem ++ numS t.len) (by unfold tyB; rw [if_neg k6, if_pos k7]) (by rw [← List.append_assoc]; exact h5) cm5
        exact ⟨m1, g1, trivial, trivial, trivial, trivial, i1, g2⟩
      · rw [biAdd, oD, wrap_i64 (by omega) (by omega)]
        exact next (rest := numS t.elem) (by unfold tyB; rw [if_neg k6, if_neg k7, List.append_nil]) h4 cm4
  have hi : i = m.types.length := by omega
  subst hi
  rw [List.take_length] at hw
  rw [ofP, oD, cm.ld, q1, oD, txsD_len, oD]
  refine (number_ok hw).use ?_
  rintro v T2 ⟨h2, e2⟩
  have cm2 := cm.of (e2 k (by simp))
  simp only [ofP, oD, Nat.zero_add, cm2.ld, q1, txsD_len]
  refine loop_image_body_2 (I := fun n x1 x3 x76 x77 x78 T => x1 = .ptr k 0 ∧ x3 = .ptr kw 0 ∧ x76 = txsD m.texts ∧ x77 = .int .i64 (m.texts.length : Int) ∧ ∃ i : Nat, x78 = .int .i64 (i : Int) ∧ i + n = m.texts.length ∧ WAt S kw [k] (numS m.types.length ++ (m.types.flatMap tyB ++ (numS m.texts.length ++ (m.texts.take i).flatMap textS))) T ∧ Cel T k 3 (moC m)) ?_ (n := m.texts.length)
    ⟨rfl, rfl, rfl, rfl, 0, rfl, by omega, by simpa using h2, cm2⟩
  rintro n _ _ _ _ _ T ⟨rfl, rfl, rfl, rfl, i, rfl, hi, hw, cm⟩
  unfold B_image_body_2
  rw [biLt, oD, cdI]
  refine ⟨fun hlt => ?_, fun hge => ?_⟩
  · have hlt : i < m.texts.length := by omega
    have et : m.texts[i]? = some m.texts[i] := List.getElem?_eq_getElem hlt
    rw [txsD_at et, oD, lsE, List.getElem?_cons_zero, oD]
    refine (wtext_ok hw (hb.tx _ (List.getElem_mem _))).use ?_
    rintro v T3 ⟨h3, e3⟩
    have cm3 := cm.of (e3 k (by simp))
    rw [biAdd, oD, wrap_i64 (by omega) (by omega)]
    exact ⟨n - 1, by omega, rfl, rfl, rfl, rfl, i + 1, rfl, by omega, by rw [flatMap_snoc et]; simpa using h3, cm3⟩
  have hi : i = m.texts.length := by omega
  subst hi
  rw [List.take_length] at hw
  rw [ofP, oD, cm.ld, q2, oD, rosD_len, oD]
  refine (number_ok hw).use ?_
  rintro v T2 ⟨h2, e2⟩
  have cm2 := cm.of (e2 k (by simp))
  simp only [ofP, oD, Nat.zero_add, cm2.ld, q2, rosD_len]
  refine loop_image_body_3 (I := fun n x3 x92 x93 x94 T => x3 = .ptr kw 0 ∧ x92 = rosD m.funcs ∧ x93 = .int .i64 (m.funcs.length : Int) ∧ ∃ i : Nat, x94 = .int .i64 (i : Int) ∧ i + n = m.funcs.length ∧ WAt S kw [] (numS m.types.length ++ (m.types.flatMap tyB ++ (numS m.texts.length ++ (m.texts.flatMap textS ++ (numS m.funcs.length ++ (m.funcs.take i).flatMap roB))))) T) ?_ (n := m.funcs.length)
    ⟨rfl, rfl, rfl, 0, rfl, by omega, by simpa using h2.less (av' := []) (by simp)⟩
  rintro n _ _ _ _ T ⟨rfl, rfl, rfl, i, rfl, hi, hw⟩
  unfold B_image_body_3
  rw [biLt, oD, cdI]
  refine ⟨fun hlt => ?_, fun hge => ?_⟩
  · have hlt : i < m.funcs.length := by omega
    obtain ⟨t, ht⟩ : ∃ t, t = m.funcs[i] := ⟨_, rfl⟩
    have et : m.funcs[i]? = some t := by rw [List.getElem?_eq_getElem hlt, ht]
    have htm : t ∈ m.funcs := by rw [ht]; exact List.getElem_mem _
    obtain ⟨b1, b2, b3, b4⟩ := hb.ro t htm
    rw [rosD_at et, oD, laRo, oD]
    intro k2 a2 n2
    refine (Cel.new (sz := 6) (c := [(.str []), .nilSlc, .nilSlc, (.int .i64 0), (.int .i64 0), .nilSlc])).st (ds := roR t) (clA _) ⟨rfl, by decide, by decide⟩ fun a2 => ?_
    rw [DSt.set_set, show setManyD [(D.str []), .nilSlc, .nilSlc, (.int .i64 0), (.int .i64 0), .nilSlc] 0 (roR t) = roR t from rfl]
    have c6 : Cel (T.set k2 ⟨6, [roR t], a2⟩) k2 6 (roR t) := Cel.new
    have hw2 := hw.more (o := ⟨6, [roR t], a2⟩) n2
    generalize T.set k2 ⟨6, [roR t], a2⟩ = T2 at *
    rw [ofP, oD, Nat.zero_add, c6.ld, show (roR t)[0]? = some (.str t.name) from rfl, oD]
    refine (wtext_ok hw2 b1).use ?_
    rintro v T3 ⟨h3, e3⟩
    have c6 := c6.of (e3 k2 (by simp))
    rw [ofP, oD, c6.ld, show (roR t)[0 + 1]? = some (iD t.params) from rfl, oD]
    refine (numbers_ok h3 (by omega)).use ?_
    rintro v T4 ⟨h4, e4⟩
    have c6 := c6.of (e4 k2 (by simp))
    rw [ofP, oD, c6.ld, show (roR t)[0 + 2]? = some (iD t.results) from rfl, oD]
    refine (numbers_ok h4 (by omega)).use ?_
    rintro v T5 ⟨h5, e5⟩
    have c6 := c6.of (e5 k2 (by simp))
    rw [ofP, oD, c6.ld, show (roR t)[0 + 3]? = some (.int .i64 t.locals) from rfl, oD]
    refine (number_ok h5).use ?_
    rintro v T6 ⟨h6, e6⟩
    have c6 := c6.of (e6 k2 (by simp))
    rw [ofP, oD, c6.ld, show (roR t)[0 + 4]? = some (.int .i64 t.stack) from rfl, oD]
    refine (number_ok h6).use ?_
    rintro v T7 ⟨h7, e7⟩
    have c6 := c6.of (e7 k2 (by simp))
    rw [ofP, oD, c6.ld, show (roR t)[0 + 5]? = some (bD t.code) from rfl, oD, convB, oD]
    refine (wtext_ok h7 (by simpa [strB] using b4)).use ?_
    rintro v T8 ⟨h8, e8⟩
    rw [biAdd, oD, wrap_i64 (by omega) (by omega)]
    refine ⟨n - 1, by omega, rfl, rfl, rfl, i + 1, rfl, by omega, ?_⟩
    rw [flatMap_snoc et]
    have := h8.less (av' := []) (by simp)
    simpa [roB] using this
  · have hi : i = m.funcs.length := by omega
    subst hi
    rw [List.take_length] at hw
    obtain ⟨h1, _, _, _, L, t, h5, h6, h7⟩ := hw
    rw [ndP, oD, ofP, oD, h6.ld, show [t][0 + 0]? = some t from rfl, oD]
    rcases h7 with ⟨rfl, e⟩ | ⟨kL, acs, z0, z1, rfl, z3⟩
    · have hL : L = [] := by simpa [ones] using e
      subst hL
      exact FinD.nil (sz := 1) (FinD.less h1 (FinD.here ⟨rfl, [], h5, rfl⟩))
    · refine FinD.freeze z3 rfl (by simp) (Nat.le_refl _) (FinD.less (DSt.le_erase h1 z0) (FinD.here ⟨rfl, L, h5, ?_⟩))
      rw [List.drop_zero, List.take_length]; rfl
end
end Go.Proofs.Ytchnpgddpaonhaa.d
end

section
open Go.Proofs Go Go.Am Go.Op
namespace Go.Proofs.Ytchnpgddpaonhaa.d
set_option linter.unusedVariables false
set_option linter.unusedSimpArgs false
set_option maxRecDepth 100000
/-- A module's bytes, and the error. -/
def encM (m : Mo) : List Int × Int :=
  if structS m ≠ 0 then ([], structS m) else if 2097140 < (bodyS m).length then ([], 3)
  else ([84, 82, 77, 1] ++ (fixS (bodyS m).length 4 ++ (bodyS m ++ fixS (sumS (bodyS m)) 4)), 0)
theorem first0_zero {α : Type} {f : α → Int} : ∀ {l : List α}, first0 f l = 0 → ∀ a ∈ l, f a = 0
  | [], _, a, h => by cases h
  | b :: l, h, a, ha => by
    rw [first0] at h
    split at h
    · rename_i hb
      rcases List.mem_cons.1 ha with rfl | ha
      · exact hb
      · exact first0_zero h a ha
    · rename_i hb; exact (hb h).elim
theorem structS_zero {m : Mo} (h : structS m = 0) : (m.types.length ≤ 256 ∧ m.texts.length ≤ 32768 ∧ m.funcs.length ≤ 256) ∧ (∀ t ∈ m.types, longTyS t = false ∧ mayTyS m t = true) ∧ (∀ t ∈ m.texts, t.length ≤ 65536) ∧ (∀ r ∈ m.funcs, longRoS r = false ∧ mayRoS m r = true) := by
  unfold structS at h
  split at h
  · cases h
  rename_i h0
  split at h
  · rename_i h1; exact (h1 h).elim
  rename_i h1
  split at h
  · cases h
  rename_i h2
  have h1 : first0 (tyErr m) m.types = 0 := Classical.not_not.1 h1
  refine ⟨by omega, fun t ht => ?_, fun t ht => ?_, fun r hr => ?_⟩
  · have := first0_zero h1 t ht
    unfold tyErr at this
    split at this
    · cases this
    · rename_i g1
      split at this
      · rename_i g2; exact ⟨by simpa using g1, g2⟩
      · cases this
  · have h2 : (m.texts.any fun t => decide (t.length > 65536)) = false := by simpa using h2
    have := List.any_eq_false.1 h2 t ht
    simp at this; exact this
  · have := first0_zero h r hr
    unfold roErr at this
    split at this
    · cases this
    · rename_i g1
      split at this
      · rename_i g2; exact ⟨by simpa using g1, g2⟩
      · cases this
theorem longTy_not {t : Ty} (h : longTyS t = false) : t.name.length ≤ 65536 ∧ t.fields.length ≤ 32 ∧ ∀ f ∈ t.fields, f.1.length ≤ 65536 := by
  unfold longTyS at h
  simp only [Bool.or_eq_false_iff, decide_eq_false_iff_not, List.any_eq_false, decide_eq_true_eq] at h
  exact ⟨by omega, by omega, fun f hf => by have := h.2 f hf; omega⟩
theorem longRo_not {r : Ro} (h : longRoS r = false) : r.name.length ≤ 65536 ∧ r.params.length ≤ 32 ∧ r.results.length ≤ 8 ∧ r.code.length ≤ 65536 ∧ r.locals ≤ 256 ∧ r.stack ≤ 4096 := by
  unfold longRoS at h
  simp only [Bool.or_eq_false_iff, decide_eq_false_iff_not] at h
  omega
theorem brief_of {m : Mo} (h : structS m = 0) : m.Brief := by
  obtain ⟨_, h1, h2, h3⟩ := structS_zero h
  exact ⟨fun t ht => longTy_not (h1 t ht).1, h2, fun r hr => by have := longRo_not (h3 r hr).1; omega⟩
section
variable {E : Env} {w0 : World}
theorem image_Encode_ok {m : Mo} (hm : m.Fits) : PureW Try.prog E w0 f_image_Encode [moD m] (.tup [bD (encM m).1, .int .i64 (encM m).2]) := fun S => by
  refine V_image_Encode_ok ?_
  unfold V_image_Encode
  rw [moD, clA, oD]
  intro k a n
  have c0 : Cel (S.set k ⟨3, [moC m], a⟩) k 3 (moC m) := Cel.new
  have hle : S.le (S.set k ⟨3, [moC m], a⟩) := DSt.le_new n
  rw [show (moC m).length = 3 from rfl]
  generalize S.set k ⟨3, [moC m], a⟩ = S1 at *
  have lm : loadAg S1 3 (.ptr k 0) = some (moD m) := c0.all (by decide) rfl
  rw [lm, oD]
  refine (image_structure_ok hm).use ?_
  rw [biNeD, oD, cdI]
  have none : ∀ e : Int, encM m = ([], e) → FinD E (fun d' S' => d' = .tup [bD (encM m).1, .int .i64 (encM m).2] ∧ S' = S) (.tup [.nilSlc, .int .i64 e]) S1 := fun e he => by
    rw [he]
    exact FinD.less hle (FinD.weak (d' := .tup [bD [], .int .i64 e]) (Wk.tup ⟨Wk.nil 1, Wk.refl _, trivial⟩) FinD.pure)
  refine ⟨fun h => none _ (by unfold encM; rw [if_pos h]), fun h => ?_⟩
  have h0 : structS m = 0 := Classical.not_not.1 h
  rw [lm, oD]
  refine (image_body_ok hm (brief_of h0)).use ?_
  rintro v T ⟨rfl, L, hw, rfl⟩
  rw [bD_len, oD, biGt, oD, cdI]
  have hL := hw.len
  refine ⟨fun hgt => none _ ?_, fun hgt => ?_⟩
  · have : 2097140 < (bodyS m).length := by
      rcases hw with ⟨_, rfl⟩ | ⟨h, _⟩ <;> omega
    unfold encM; rw [if_neg (by rw [h0]; simp), if_pos this]
  have hgt : ¬ 2097140 < L.length := by omega
  have hLb : L = bodyS m := by
    rcases hw with ⟨_, rfl⟩ | ⟨_, h⟩
    · rfl
    · omega
  subst hLb
  have he : encM m = ([84, 82, 77, 1] ++ (fixS (bodyS m).length 4 ++ (bodyS m ++ fixS (sumS (bodyS m)) 4)), 0) := by
    unfold encM; rw [if_neg (by rw [h0]; simp), if_neg hgt]
  rw [show fillR 1 (List.replicate 4 [D.int .u8 0]) [(0, .int .u8 84), (1, .int .u8 82), (2, .int .u8 77), (3, .int .u8 1)] = some (ones (([84, 82, 77, 1] : List Int).map (D.int .u8))) from rfl]
  simp only [litD, oD]
  refine .inr fun k2 a2 n2 => ?_
  simp only [sameD, DSt.set_same]
  rw [if_pos (by decide)]
  refine .inr ⟨⟨by trivial, by decide, by decide⟩, ?_⟩
  rw [DSt.erase_set _ _ _ n2]
  have e4 : (D.lst (((ones (([84, 82, 77, 1] : List Int).map (D.int .u8))).drop 0).take 4) 1) = bD [84, 82, 77, 1] := rfl
  rw [e4]
  simp only [bD_len, oD, cvI]
  refine (wire_Fixed_ok (s := 4) (by decide) (by decide)).use ?_
  refine (wire_Sum_ok (by omega)).use ?_
  rw [cvI, oD]
  refine (wire_Fixed_ok (s := 4) (by decide) (by decide)).use ?_
  rw [u64_wrap, u64_wrap, fixS_wrap _ (by decide), fixS_wrap _ (by decide)]
  have hl4 : fillR 1 (List.replicate 4 [D.nilSlc]) [(0, bD [84, 82, 77, 1]), (1, bD (fixS (bodyS m).length 4)), (2, bD (bodyS m)), (3, bD (fixS (sumS (bodyS m)) 4))] = some ([[84, 82, 77, 1], fixS (bodyS m).length 4, bodyS m, fixS (sumS (bodyS m)) 4].map fun b => [bD b]) := rfl
  have hnew : newS T 1 ([[84, 82, 77, 1], fixS (bodyS m).length 4, bodyS m, fixS (sumS (bodyS m)) 4].map fun b => [bD b]) 4 4 true (fun v24 S25 => DFn Try.prog E w0 false f_slices_Concat_byte [v24] S25 fun v26 S27 => FinD E (fun d' S' => d' = .tup [bD (encM m).1, .int .i64 (encM m).2] ∧ S' = S) (.tup [v26, .int .i64 0]) S27) := by
    refine .inl ?_
    show DFn Try.prog E w0 false f_slices_Concat_byte [listsD [[84, 82, 77, 1], fixS (bodyS m).length 4, bodyS m, fixS (sumS (bodyS m)) 4]] T _
    refine (Concat_ok (by simp [fixS_length]; omega) (by simp)).use ?_
    rw [he]
    have : ([[84, 82, 77, 1], fixS (bodyS m).length 4, bodyS m, fixS (sumS (bodyS m)) 4] : List (List Int)).flatten = [84, 82, 77, 1] ++ (fixS (bodyS m).length 4 ++ (bodyS m ++ fixS (sumS (bodyS m)) 4)) := by simp
    rw [this]
    exact FinD.less hle FinD.pure
  simpa only [hl4, oD] using hnew
end
end Go.Proofs.Ytchnpgddpaonhaa.d
end

section
open Go.Proofs Go Go.Am Go.Op
namespace Go.Proofs.Ytchnpgddpaonhaa.d
set_option linter.unusedVariables false
set_option linter.unusedSimpArgs false
set_option maxRecDepth 100000
theorem putF_pre : ∀ (f a b : Nat) {r s : List Int}, putF f a ++ r = putF f b ++ s → a = b ∧ r = s
  | 0, a, b, r, s, h => by
    simp only [putF, List.cons_append, List.nil_append, List.cons.injEq] at h
    exact ⟨by omega, h.2⟩
  | f + 1, a, b, r, s, h => by
    rw [putF, putF] at h
    split at h <;> split at h <;> simp only [List.cons_append, List.nil_append, List.cons.injEq] at h
    · exact ⟨by omega, h.2⟩
    · omega
    · omega
    · obtain ⟨h1, h2⟩ := putF_pre f _ _ h.2
      exact ⟨by omega, h2⟩
theorem numS_pre {a b : Int} (ha : I64 a) (hb : I64 b) {r s : List Int} (h : numS a ++ r = numS b ++ s) : a = b ∧ r = s := by
  obtain ⟨h1, h2⟩ := putF_pre 9 _ _ h
  obtain ⟨a1, a2⟩ := ha
  obtain ⟨b1, b2⟩ := hb
  exact ⟨by omega, h2⟩
theorem bytesOf_inj : ∀ {a b : Tx}, bytesOf a = bytesOf b → a = b
  | [], [], _ => rfl
  | [], _ :: _, h => by simp [bytesOf] at h
  | _ :: _, [], h => by simp [bytesOf] at h
  | x :: a, y :: b, h => by
    simp only [bytesOf, List.map_cons, List.cons.injEq] at h
    have : x = y := UInt8.toNat_inj.1 (by omega)
    rw [this, bytesOf_inj (a := a) (b := b) h.2]
theorem i64_len {n : Nat} (h : n < 2 ^ 47) : I64 (n : Int) := ⟨by omega, by omega⟩
theorem textS_pre {a b : Tx} (ha : a.length < 2 ^ 47) (hb : b.length < 2 ^ 47) {r s : List Int} (h : textS a ++ r = textS b ++ s) : a = b ∧ r = s := by
  simp only [textS, List.append_assoc] at h
  obtain ⟨h1, h2⟩ := numS_pre (i64_len ha) (i64_len hb) h
  obtain ⟨h3, h4⟩ := List.append_inj h2 (by simp [bytesOf]; omega)
  exact ⟨bytesOf_inj h3, h4⟩
theorem flat_pre {α : Type} {f : α → List Int} {P : α → Prop} (h : ∀ {a b : α}, P a → P b → ∀ {r s : List Int}, f a ++ r = f b ++ s → a = b ∧ r = s) : ∀ {l l' : List α}, l.length = l'.length → (∀ a ∈ l, P a) → (∀ a ∈ l', P a) → ∀ {r s : List Int}, l.flatMap f ++ r = l'.flatMap f ++ s → l = l' ∧ r = s
  | [], [], _, _, _, r, s, e => ⟨rfl, by simpa using e⟩
  | [], _ :: _, hl, _, _, r, s, e => by simp at hl
  | _ :: _, [], hl, _, _, r, s, e => by simp at hl
  | a :: l, b :: l', hl, hp, hq, r, s, e => by
    simp only [List.flatMap_cons, List.append_assoc] at e
    obtain ⟨rfl, e2⟩ := h (hp a (by simp)) (hq b (by simp)) e
    obtain ⟨rfl, e3⟩ := flat_pre h (by simpa using hl) (fun x hx => hp x (by simp [hx])) (fun x hx => hq x (by simp [hx])) e2
    exact ⟨rfl, e3⟩
theorem cnt_pre {α : Type} {f : α → List Int} {P : α → Prop} (h : ∀ {a b : α}, P a → P b → ∀ {r s : List Int}, f a ++ r = f b ++ s → a = b ∧ r = s) {l l' : List α} (hl : l.length < 2 ^ 47) (hl' : l'.length < 2 ^ 47) (hp : ∀ a ∈ l, P a) (hq : ∀ a ∈ l', P a) {r s : List Int} (e : numS l.length ++ (l.flatMap f ++ r) = numS l'.length ++ (l'.flatMap f ++ s)) : l = l' ∧ r = s := by
  obtain ⟨h1, h2⟩ := numS_pre (i64_len hl) (i64_len hl') e
  exact flat_pre h (by omega) hp hq h2
theorem fld_pre {a b : Tx × Int} (ha : a.1.length < 2 ^ 47 ∧ I64 a.2) (hb : b.1.length < 2 ^ 47 ∧ I64 b.2) {r s : List Int} (h : fldB' a ++ r = fldB' b ++ s) : a = b ∧ r = s := by
  simp only [fldB', List.append_assoc] at h
  obtain ⟨h1, h2⟩ := textS_pre ha.1 hb.1 h
  obtain ⟨h3, h4⟩ := numS_pre ha.2 hb.2 h2
  exact ⟨Prod.ext h1 h3, h4⟩
/-- A type, of which what is not written is nothing. -/
def TyFix (t : Ty) : Prop := t.Ok ∧ ((t.kind = 6 ∧ t.elem = 0 ∧ t.len = 0) ∨ (t.kind = 7 ∧ t.name = [] ∧ t.fields = []) ∨ (t.kind = 8 ∧ t.name = [] ∧ t.fields = [] ∧ t.len = 0))
theorem tyFix_of {m : Mo} {t : Ty} (ht : t.Ok) (h : mayTyS m t = true) : TyFix t := by
  refine ⟨ht, ?_⟩
  unfold mayTyS flatS at h
  split at h
  · rename_i k
    simp only [Bool.and_eq_true, decide_eq_true_eq] at h
    exact .inl ⟨k, h.1.1, h.1.2⟩
  split at h
  · rename_i k
    simp only [Bool.and_eq_true, decide_eq_true_eq] at h
    exact .inr (.inl ⟨k, h.1.1.1, List.length_eq_zero_iff.1 h.1.1.2⟩)
  split at h
  · rename_i k
    simp only [Bool.and_eq_true, decide_eq_true_eq] at h
    exact .inr (.inr ⟨k, h.1.1.1, List.length_eq_zero_iff.1 h.1.1.2, h.2⟩)
  · cases h
theorem ty_pre {a b : Ty} (ha : TyFix a) (hb : TyFix b) {r s : List Int} (h : tyB a ++ r = tyB b ++ s) : a = b ∧ r = s := by
  obtain ⟨oa, fa⟩ := ha
  obtain ⟨ob, fb⟩ := hb
  obtain ⟨ak, an, af, ae, al⟩ := a
  obtain ⟨bk, bn, bf, be, bl⟩ := b
  simp only [tyB, List.cons_append, List.cons.injEq] at h
  obtain ⟨rfl, h⟩ := h
  have na := oa.name
  have nb := ob.name
  have fA := oa.fields
  have fB := ob.fields
  have qA := oa.names
  have qB := ob.names
  have eA := oa.elem
  have eB := ob.elem
  have lA := oa.len
  have lB := ob.len
  simp only at fa fb na nb fA fB qA qB eA eB lA lB
  by_cases k6 : ak = 6
  · rw [if_pos k6, if_pos k6] at h
    simp only [List.append_assoc] at h
    obtain ⟨rfl, h1⟩ := textS_pre na nb h
    obtain ⟨rfl, h2⟩ := cnt_pre (f := fldB') (P := fun f => f.1.length < 2 ^ 47 ∧ I64 f.2) (fun h1 h2 => fld_pre h1 h2) fA fB qA qB h1
    have : ae = 0 ∧ al = 0 ∧ be = 0 ∧ bl = 0 := by omega
    obtain ⟨rfl, rfl, rfl, rfl⟩ := this
    exact ⟨rfl, h2⟩
  rw [if_neg k6, if_neg k6] at h
  simp only [List.append_assoc] at h
  obtain ⟨rfl, h0⟩ := numS_pre eA eB h
  clear h
  rcases fa with ⟨k, _⟩ | ⟨k, rfl, rfl⟩ | ⟨k, rfl, rfl, rfl⟩
  · exact (k6 k).elim
  · rcases fb with ⟨k, _⟩ | ⟨k, rfl, rfl⟩ | ⟨k, _⟩
    · exact (k6 k).elim
    · rw [if_pos k, if_pos k] at h0
      obtain ⟨rfl, h1⟩ := numS_pre lA lB h0
      exact ⟨rfl, h1⟩
    · omega
  · rcases fb with ⟨k, _⟩ | ⟨k, _⟩ | ⟨k, rfl, rfl, rfl⟩
    · exact (k6 k).elim
    · omega
    · rw [if_neg (by omega)] at h0
      exact ⟨rfl, by simpa using h0⟩
theorem strB_len (l : List Int) : (strB l).length = l.length := by simp [strB]
theorem ro_pre {a b : Ro} (oa : a.Ok) (ob : b.Ok) {r s : List Int} (h : roB a ++ r = roB b ++ s) : a = b ∧ r = s := by
  obtain ⟨an, ap, ar, al, ak, ac⟩ := a
  obtain ⟨bn, bp, br, bl, bk, bc⟩ := b
  have ha := oa.ints
  have hb := ob.ints
  simp only [roB, numsS, List.append_assoc] at h
  simp only at ha hb
  obtain ⟨e1, h1⟩ := textS_pre oa.name ob.name h
  obtain ⟨e2, h2⟩ := cnt_pre (f := numS) (P := I64) (fun h1 h2 => numS_pre h1 h2) oa.params ob.params (fun n hn => ha n (by simp [hn])) (fun n hn => hb n (by simp [hn])) h1
  obtain ⟨e3, h3⟩ := cnt_pre (f := numS) (P := I64) (fun h1 h2 => numS_pre h1 h2) oa.results ob.results (fun n hn => ha n (by simp [hn])) (fun n hn => hb n (by simp [hn])) h2
  obtain ⟨e4, h4⟩ := numS_pre oa.locals ob.locals h3
  obtain ⟨e5, h5⟩ := numS_pre oa.stack ob.stack h4
  obtain ⟨h6, h7⟩ := textS_pre (by rw [strB_len]; exact oa.code) (by rw [strB_len]; exact ob.code) h5
  have e6 := strB_inj oa.bytes ob.bytes h6
  simp only at e1 e2 e3 e4 e5 e6
  subst e1; subst e2; subst e3; subst e4; subst e5; subst e6
  exact ⟨rfl, h7⟩
theorem body_inj {a b : Mo} (oa : a.Ok) (ob : b.Ok) (ta : ∀ t ∈ a.types, TyFix t) (tb : ∀ t ∈ b.types, TyFix t) (h : bodyS a = bodyS b) : a = b := by
  obtain ⟨at', ax, af⟩ := a
  obtain ⟨bt, bx, bf⟩ := b
  rw [← List.append_nil (bodyS _), ← List.append_nil (bodyS ⟨bt, bx, bf⟩)] at h
  simp only [bodyS, List.append_assoc] at h
  obtain ⟨e1, h1⟩ := cnt_pre (f := tyB) (P := TyFix) (fun h1 h2 => ty_pre h1 h2) oa.types ob.types ta tb h
  obtain ⟨e2, h2⟩ := cnt_pre (f := textS) (P := fun t => t.length < 2 ^ 47) (fun h1 h2 => textS_pre h1 h2) oa.texts ob.texts oa.tx ob.tx h1
  obtain ⟨e3, h3⟩ := cnt_pre (f := roB) (P := Ro.Ok) (fun h1 h2 => ro_pre h1 h2) oa.funcs ob.funcs oa.ro ob.ro h2
  simp only at e1 e2 e3
  rw [e1, e2, e3]
theorem enc_zero {m : Mo} (h : (encM m).2 = 0) : structS m = 0 ∧ (encM m).1 = [84, 82, 77, 1] ++ (fixS (bodyS m).length 4 ++ (bodyS m ++ fixS (sumS (bodyS m)) 4)) := by
  unfold encM at h ⊢
  split at h
  · rename_i h0; exact (h0 h).elim
  rename_i h0
  split at h
  · cases h
  rename_i h1
  rw [if_neg h0, if_neg h1]
  exact ⟨Classical.not_not.1 h0, rfl⟩
theorem encM_inj {a b : Mo} (oa : a.Ok) (ob : b.Ok) (ea : (encM a).2 = 0) (eb : (encM b).2 = 0) : (encM a).1 = (encM b).1 ↔ a = b := by
  refine ⟨fun h => ?_, fun h => by rw [h]⟩
  obtain ⟨sa, ha⟩ := enc_zero ea
  obtain ⟨sb, hb⟩ := enc_zero eb
  rw [ha, hb] at h
  have hl : (bodyS a).length = (bodyS b).length := by
    have := congrArg List.length h
    simp only [List.length_append, fixS_length] at this
    omega
  obtain ⟨_, h⟩ := List.append_inj h rfl
  obtain ⟨_, h⟩ := List.append_inj h (by simp only [fixS_length])
  obtain ⟨h, _⟩ := List.append_inj h hl
  obtain ⟨_, ta, _⟩ := structS_zero sa
  obtain ⟨_, tb, _⟩ := structS_zero sb
  exact body_inj oa ob (fun t ht => tyFix_of (oa.ty t ht) (ta t ht).2) (fun t ht => tyFix_of (ob.ty t ht) (tb t ht).2) h
theorem byte_putF : ∀ (f n : Nat), n < 256 * 128 ^ f → ∀ b ∈ putF f n, Byte b
  | 0, n, h, b, hb => by
    simp only [putF, List.mem_singleton] at hb
    subst hb
    exact ⟨by omega, by omega⟩
  | f + 1, n, h, b, hb => by
    rw [putF] at hb
    split at hb
    · simp only [List.mem_singleton] at hb
      subst hb
      exact ⟨by omega, by omega⟩
    · rcases List.mem_cons.1 hb with rfl | hb
      · exact ⟨by omega, by omega⟩
      · rw [Nat.pow_succ] at h
        exact byte_putF f _ (by omega) b hb
theorem byte_num {n : Int} : ∀ b ∈ numS n, Byte b := byte_putF 9 _ (by omega)
theorem byte_of {s : Tx} : ∀ b ∈ bytesOf s, Byte b := fun b hb => by
  simp only [bytesOf, List.mem_map] at hb
  obtain ⟨x, _, rfl⟩ := hb
  have := x.toNat_lt
  exact ⟨by omega, by omega⟩
/-- All bytes. -/
def AllB (l : List Int) : Prop := ∀ b ∈ l, Byte b
theorem AllB.app {l m : List Int} (h : AllB l) (k : AllB m) : AllB (l ++ m) := fun b hb => (List.mem_append.1 hb).elim (h b) (k b)
theorem AllB.flat {α : Type} {f : α → List Int} {l : List α} (h : ∀ a ∈ l, AllB (f a)) : AllB (l.flatMap f) := fun b hb => by
  obtain ⟨a, ha, hb⟩ := List.mem_flatMap.1 hb
  exact h a ha b hb
theorem byte_text {s : Tx} : AllB (textS s) := AllB.app byte_num byte_of
theorem byte_ty {t : Ty} (h : t.Ok) : AllB (tyB t) := fun b hb => by
  unfold tyB at hb
  rcases List.mem_cons.1 hb with rfl | hb
  · exact h.kind
  · have : AllB (if t.kind = 6 then textS t.name ++ (numS t.fields.length ++ t.fields.flatMap fldB') else numS t.elem ++ if t.kind = 7 then numS t.len else []) := by
      split
      · exact byte_text.app (AllB.app byte_num (AllB.flat fun f _ => byte_text.app byte_num))
      · refine AllB.app byte_num ?_
        split
        · exact byte_num
        · intro b hb; cases hb
    exact this b hb
theorem byte_nums {l : List Int} : AllB (numsS l) := AllB.app byte_num (AllB.flat fun _ _ => byte_num)
theorem byte_body {m : Mo} (h : m.Ok) : AllB (bodyS m) := by
  unfold bodyS
  refine AllB.app byte_num (AllB.app (AllB.flat fun t ht => byte_ty (h.ty t ht)) (AllB.app byte_num (AllB.app (AllB.flat fun _ _ => byte_text) (AllB.app byte_num (AllB.flat fun r hr => ?_)))))
  unfold roB
  exact byte_text.app (byte_nums.app (byte_nums.app (AllB.app byte_num (AllB.app byte_num byte_text))))
theorem byte_encM {m : Mo} (h : m.Ok) : AllB (encM m).1 := by
  unfold encM
  split
  · intro b hb; cases hb
  split
  · intro b hb; cases hb
  · refine AllB.app (fun b hb => ?_) (AllB.app (byte_fix _ _) ((byte_body h).app (byte_fix _ _)))
    simp only [List.mem_cons, List.mem_nil_iff, or_false] at hb
    unfold Byte; omega
end Go.Proofs.Ytchnpgddpaonhaa.d
end

section
open Go.Proofs Go Go.Am Go.Op
namespace Go.Proofs.Ytchnpgddpaonhaa.d
set_option linter.unusedVariables false
set_option linter.unusedSimpArgs false
set_option maxRecDepth 100000
section
variable {E : Env} {w0 : World}
theorem ImageUnlike_true {a b : Mo} (ha : a.Ok) (hb : b.Ok) {S : DSt} : DFn Try.prog E w0 false f_law13_ImageUnlike [moD a, moD b] S fun v _ => v = .bool true := by
  refine V_law13_ImageUnlike_ok ?_
  unfold V_law13_ImageUnlike
  rw [moD, clA, oD]
  intro k c n
  rw [moD, clA, oD]
  intro k2 c2 n2
  obtain ⟨ne2, n2'⟩ := DSt.fresh n2
  generalize hS3 : (S.set k _).set k2 _ = S3
  have h2 : Cel S3 k2 3 (moC b) := by rw [← hS3]; exact Cel.new
  have h0 : Cel S3 k 3 (moC a) := by rw [← hS3]; exact (Cel.new).set n2
  have l0 : loadAg S3 3 (.ptr k 0) = some (moD a) := h0.all (by decide) rfl
  have l2 : loadAg S3 3 (.ptr k2 0) = some (moD b) := h2.all (by decide) rfl
  rw [l0, oD]
  refine (kit_Bulk_ok ha (N := 100000) (by decide)).use ?_
  rintro v S' ⟨rfl, b1, rfl, s1⟩
  rw [biGt, oD]
  have wk : ∀ {S' : DSt}, DFn Try.prog E w0 false f_law13_works [] S' fun v13 S14 => FinD E (fun v _ => v = .bool true) v13 S14 := works13_ok.use (FinD.here rfl)
  by_cases c1 : b1 > 100000
  · simp only [decide_eq_true c1, wdB, vdF, gdF, oD, pdB, if_true, cdT, show ((true == false) = false) from rfl]
    exact wk
  simp only [decide_eq_false c1, wdB, vdT, gdT, oD, l2, show ((false == false) = true) from rfl]
  refine (kit_Bulk_ok hb (N := 100000) (by decide)).use ?_
  rintro v S' ⟨rfl, b2, rfl, s2⟩
  simp only [biGt, oD, pdB, Bool.false_eq_true, if_false]
  rw [cdI]
  refine ⟨fun _ => wk, fun c2' => ?_⟩
  have fa := Mo.Small.fits ha (s1 (by omega)) (by decide)
  have fb := Mo.Small.fits hb (s2 (by omega)) (by decide)
  rw [l0, oD]
  refine (image_Encode_ok fa).use ?_
  simp only [exD, List.getElem?_cons_zero, List.getElem?_cons_succ, oD, l2]
  refine (image_Encode_ok fb).use ?_
  simp only [exD, List.getElem?_cons_zero, List.getElem?_cons_succ, oD]
  rw [biNeD, oD]
  by_cases d1 : (encM a).2 = 0
  case neg =>
    have e1 : decide ((encM a).2 ≠ 0) = true := decide_eq_true d1
    simp only [e1, wdB, vdF, gdF, oD, pdB, if_true, cdT, show ((true == false) = false) from rfl]
    exact wk
  have e1 : decide ((encM a).2 ≠ 0) = false := decide_eq_false fun h => h d1
  simp only [e1, wdB, vdT, gdT, oD, pdB, show ((false == false) = true) from rfl, biNeD, Bool.false_eq_true, if_false]
  rw [cdI]
  refine ⟨fun _ => wk, fun d2 => ?_⟩
  have d2 : (encM b).2 = 0 := Classical.not_not.1 d2
  rw [convB, oD]
  refine ⟨by trivial, ?_⟩
  rw [convB, oD]
  refine ⟨by trivial, ?_⟩
  have hs : decide (strB (encM a).1 = strB (encM b).1) = decide (a = b) := decide_eq_decide.2 ⟨fun h => (encM_inj ha hb d1 d2).1 (strB_inj (byte_encM ha) (byte_encM hb) h), fun h => by rw [h]⟩
  rw [bsEqT, hs, oD, l0, oD]
  refine ⟨by trivial, ?_⟩
  rw [l2, oD]
  refine ⟨by trivial, (kit_SameModule_ok ha hb).useX ⟨⟨by trivial, by trivial, by trivial⟩, ?_⟩⟩
  rw [eqBB, eqE, oD, show (decide (a = b) == decide (a = b)) = true by simp]
  simp only [wdB, vdT, gdT, oD, pdB, if_true, show ((true == true) = true) from rfl]
  refine works13_ok.useX ⟨by trivial, ?_⟩
  exact FinD.here rfl
end
end Go.Proofs.Ytchnpgddpaonhaa.d
end

section
open Go Go.Am
namespace Go.Am.Old
open Go.ChangeShapes Go.WideShapes Go.ChangeAt Go.RowKit
set_option linter.unusedVariables false
set_option linter.unusedSimpArgs false
set_option maxRecDepth 100000
section
variable {H : Type} {enc : TypeId × Value → H} {P : Program} {W : World} {b0 : Nat} {sp : Nat → Bool} {hd : Bool}
theorem trod_int {n : Nat} {t : TypeId} {k : IntKind} {cs : List Value} {x : DataW H × List MemPlace} (ht : P.underlying t = some (.int k)) (h : DataW.trod enc P W b0 sp hd n t cs = some x) : ∃ z, cs = [.int k z] ∧ (Lit.int k z).wf = true := by
  cases n with
  | zero => simp [DataW.trod] at h
  | succ n =>
    simp only [DataW.trod, ht] at h
    split at h
    all_goals (first | (cases h; done) | skip)
    all_goals simp_all
    all_goals (first | (obtain ⟨⟨rfl, h2⟩, _⟩ := h; exact ⟨_, ⟨rfl, rfl⟩, h2⟩) | skip)
end
theorem mapM_get {α β : Type} {f : α → Option β} : ∀ {l : List α} {r : List β}, l.mapM f = some r → ∀ (i : Nat) (x : α), l[i]? = some x → ∃ y, r[i]? = some y ∧ f x = some y
  | [], r, h, i, x, hx => by simp at hx
  | a :: l, r, h, i, x, hx => by
    simp only [List.mapM_cons, Option.bind_eq_bind, Option.bind_eq_some_iff] at h
    obtain ⟨b, hb, bs, hbs, h⟩ := h
    cases h
    cases i with
    | zero => simp at hx; subst hx; exact ⟨b, rfl, hb⟩
    | succ i =>
      have hx' : l[i]? = some x := by simpa using hx
      obtain ⟨y, h1, h2⟩ := mapM_get hbs i x hx'
      exact ⟨y, by simpa using h1, h2⟩
theorem mapM_length {α β : Type} {f : α → Option β} : ∀ {l : List α} {r : List β}, l.mapM f = some r → r.length = l.length
  | [], r, h => by simp at h; subst h; rfl
  | a :: l, r, h => by
    simp only [List.mapM_cons, Option.bind_eq_bind, Option.bind_eq_some_iff] at h
    obtain ⟨b, hb, bs, hbs, h⟩ := h
    cases h
    simp [mapM_length hbs]
theorem weightsAll_mem {H : Type} {P : Program} {e : TypeId} : ∀ {l : List (DataW H)} {d : DataW H}, d ∈ l → ∀ n ∈ DataW.weights P e d, n ∈ DataW.weightsAll P e l
  | a :: l, d, h, n, hn => by
    simp only [DataW.weightsAll]
    rcases List.mem_cons.1 h with rfl | h
    · exact List.mem_append_left _ hn
    · exact List.mem_append_right _ (weightsAll_mem h n hn)
/-- A slice of things of a size: its cells. -/
theorem slice_cells {H : Type} {enc : TypeId × Value → H} {P : Program} {W : World} {hd : Bool} {n : Nat} {t e : TypeId} {sz : Nat} {cs : List Value} {x : DataW H × List MemPlace} (ht : P.underlying t = some (.slice e)) (hc : P.cellsOf e = sz) (hsz : 0 < sz)
    (h : DataW.trod enc P W 0 (fun _ => true) hd n t cs = some x) : ∃ c, cs = [c] ∧ ((old1 c = .nilSlc) ∨ ∃ (b i len cap m : Nat) (els : List (DataW H × List MemPlace)), old1 c = .slc (.old b) i len cap true 1 ∧ len ≤ cap ∧ els.length = len ∧ (∀ d ∈ els, ∀ k ∈ DataW.weights P e d.1, k ∈ DataW.weights P t x.1) ∧
      (∀ k : Nat, len * P.bytesOf e ≤ k ∨ k ∈ DataW.weights P t x.1 ∨ True) ∧ (∃ k ∈ DataW.weights P t x.1, len * P.bytesOf e ≤ k) ∧
      ∀ j d, els[j]? = some d → ∃ (all : List AV) (vs : List Value), envOf W b = some all ∧ (all.drop (i + j * sz)).take sz = vs.map old1 ∧ DataW.trod enc P W 0 (fun _ => true) hd m e vs = some d) := by
  rcases DataW.trod_slice ht h with ⟨e1, _⟩ | ⟨a, len, cap, elems, rest, m, _, e1, hx, _, hl, hm, hlen, hel, hsp, _⟩
  · exact ⟨_, e1, .inl rfl⟩
  · refine ⟨_, e1, .inr ?_⟩
    have hd' : x.1 = .slice (elems.map (·.1)) (rest.map (·.1)) := by rw [hx]
    have hcell : ∀ {c : Addr} {cs : List Value}, W.cells? 0 c sz = some cs → cs.length = sz ∧ ∀ j, j < sz → ∃ x, cs[j]? = some x ∧ W.cell? (c.add j) = some x := by
      intro c cs hc
      unfold World.cells? at hc
      rw [if_pos (Nat.zero_le _)] at hc
      refine ⟨by have := mapM_length hc; simpa using this, fun j hj => ?_⟩
      obtain ⟨y, h1, h2⟩ := mapM_get hc j j (by rw [List.getElem?_range hj])
      exact ⟨y, h1, h2⟩
    have hs : cap = 0 ∨ a.spot = none := by
      by_cases h0 : cap = 0
      · exact .inl h0
      · right
        by_cases hl0 : len = 0
        · obtain ⟨r1, r2⟩ := hsp rfl
          have := r2 0 (by omega)
          rw [hc, hl0, List.getElem?_eq_getElem (by omega)] at this
          obtain ⟨cs, h1, _⟩ := Option.bind_eq_some_iff.1 this
          obtain ⟨x, _, h2⟩ := (hcell h1).2 0 hsz
          simp only [Nat.add_zero, Nat.zero_mul] at h2
          exact (spot_of_cell h2).1
        · have := hel 0 (by omega)
          rw [hc, List.getElem?_eq_getElem (by omega)] at this
          obtain ⟨cs, h1, _⟩ := Option.bind_eq_some_iff.1 this
          obtain ⟨x, _, h2⟩ := (hcell h1).2 0 hsz
          simp only [Nat.add_zero, Nat.zero_mul] at h2
          exact (spot_of_cell h2).1
    refine ⟨a.block, a.off, len, cap, m, elems, ?_, by omega, hlen, ?_, fun _ => .inr (.inr trivial), ⟨(elems.length + rest.length) * P.bytesOf e, ?_, ?_⟩, ?_⟩
    · simp only [old1]
      rw [if_pos ⟨hl, hs⟩]
    · intro d hdm k hk
      rw [hd']
      simp only [DataW.weights, ht]
      exact List.mem_cons_of_mem _ (List.mem_append_left _ (weightsAll_mem (d := d.1) (List.mem_map.2 ⟨d, hdm, rfl⟩) k hk))
    · rw [hd']; simp [DataW.weights, ht]
    · rw [hlen]; exact Nat.mul_le_mul_right _ (by omega)
    · intro i d hid
      have hi : i < len := by have := (List.getElem?_eq_some_iff.1 hid).1; omega
      have hi' := hel i hi
      rw [hc, hid] at hi'
      obtain ⟨cs, h1, h2⟩ := Option.bind_eq_some_iff.1 hi'
      obtain ⟨c1, c2⟩ := hcell h1
      have hs' : a.spot = none := hs.resolve_left (by omega)
      have hadd : ∀ j, (a.add (i * sz)).add j = ⟨a.block, a.off + i * sz + j, none⟩ := by
        intro j
        obtain ⟨b, of, s⟩ := a
        simp only at hs'
        subst hs'
        unfold Addr.add
        split <;> split <;> simp_all
      obtain ⟨x0, _, hx0⟩ := c2 0 hsz
      rw [hadd] at hx0
      obtain ⟨_, arr, el, fr, hb, _⟩ := spot_of_cell hx0
      simp only at hb
      refine ⟨arr.toList.map old1, cs, by unfold envOf; rw [hb], ?_, h2⟩
      refine List.ext_getElem? fun j => ?_
      rw [List.getElem?_take]
      split
      · rename_i hj
        obtain ⟨xj, hj1, hj2⟩ := c2 j hj
        rw [hadd] at hj2
        obtain ⟨_, arr', el', fr', hb', hj3⟩ := spot_of_cell hj2
        simp only at hb' hj3
        rw [hb] at hb'
        cases hb'
        rw [List.getElem?_drop, List.getElem?_map, Array.getElem?_toList, hj3, List.getElem?_map, hj1]
      · rename_i hj
        rw [List.getElem?_map, List.getElem?_eq_none (by omega)]
        rfl
theorem wf_i64 {z : Int} (h : (Lit.int .i64 z).wf = true) : -9223372036854775808 ≤ z ∧ z ≤ 9223372036854775807 := by
  simp only [Lit.wf, Bool.and_eq_true, decide_eq_true_eq] at h
  have h1 : IntKind.i64.min = -9223372036854775808 := rfl
  have h2 : IntKind.i64.max = 9223372036854775807 := rfl
  omega
theorem wf_u8 {z : Int} (h : (Lit.int .u8 z).wf = true) : 0 ≤ z ∧ z ≤ 255 := by
  simp only [Lit.wf, Bool.and_eq_true, decide_eq_true_eq] at h
  have h1 : IntKind.u8.min = 0 := rfl
  have h2 : IntKind.u8.max = 255 := rfl
  omega
section
variable {H : Type} {enc : TypeId × Value → H} {P : Program} {W : World} {hd : Bool}
/-- A slice of the caller's is a list. -/
theorem rp_slice {α : Type} [Inhabited α] {row : α → List D} {Good : α → Prop} {n : Nat} {t e : TypeId} {sz : Nat} {cs : List Value} {x : DataW H × List MemPlace} (ht : P.underlying t = some (.slice e)) (hc : P.cellsOf e = sz) (hsz : 0 < sz) (hrow : ∀ a, (row a).length = sz)
    (h : DataW.trod enc P W 0 (fun _ => true) hd n t cs = some x)
    (f : ∀ m vs d, DataW.trod enc P W 0 (fun _ => true) hd m e vs = some d → (∀ k ∈ DataW.weights P e d.1, k ∈ DataW.weights P t x.1) → ∃ a, Good a ∧ (∀ R, RpL (envOf W) R (row a) (vs.map old1)) ∧ (vs.map old1).all scalar = true) :
    ∃ c l, cs = [c] ∧ (∀ a ∈ l, Good a) ∧ (∀ R, Rp (envOf W) R (.lst (l.map row) sz) (old1 c)) ∧ scalar (old1 c) = true ∧ (l = [] ∨ ∃ k ∈ DataW.weights P t x.1, l.length * P.bytesOf e ≤ k) := by
  obtain ⟨c, e0, h1 | ⟨b, i, len, cap, m, els, h1, hlc, h2, h3, _, hk, h6⟩⟩ := slice_cells ht hc hsz h
  · exact ⟨c, [], e0, by simp, fun R => by rw [h1]; simp only [Rp]; exact .inl ⟨by trivial, by trivial⟩, by rw [h1]; rfl, .inl rfl⟩
  · have each : ∀ j, ∃ a : α, j < len → Good a ∧ ∃ all, envOf W b = some all ∧ (∀ R, RpL (envOf W) R (row a) ((all.drop (i + j * sz)).take sz)) ∧ ((all.drop (i + j * sz)).take sz).all scalar = true := by
      intro j
      by_cases hj : j < len
      · obtain ⟨all, vs, g1, g2, g3⟩ := h6 j _ (List.getElem?_eq_getElem (by omega : j < els.length))
        obtain ⟨a, q1, q2, q3⟩ := f m vs _ g3 (h3 _ (List.getElem_mem _))
        exact ⟨a, fun _ => ⟨q1, all, g1, by rw [g2]; exact q2, by rw [g2]; exact q3⟩⟩
      · exact ⟨default, fun h => (hj h).elim⟩
    obtain ⟨g, hg⟩ := Classical.axiomOfChoice each
    have main : ∀ (all : List AV), envOf W b = some all → ∀ N, N ≤ len → (∀ R, RpLL (envOf W) R (((List.range N).map g).map row) ((all.drop i).take (N * sz))) ∧ ((all.drop i).take (N * sz)).all scalar = true := by
      intro all hall N
      induction N with
      | zero => intro _; exact ⟨fun R => by simp [RpLL], by simp⟩
      | succ N ih =>
        intro hN
        obtain ⟨i1, i2⟩ := ih (by omega)
        obtain ⟨_, all', g1, g2, g3⟩ := hg N (by omega)
        rw [hall] at g1
        cases g1
        have e1 : (all.drop i).take ((N + 1) * sz) = (all.drop i).take (N * sz) ++ (all.drop (i + N * sz)).take sz := by
          rw [Nat.succ_mul, List.take_add, List.drop_drop]
        rw [e1]
        refine ⟨fun R => ?_, by rw [List.all_append, i2, g3]; rfl⟩
        rw [List.range_succ, List.map_append, List.map_append, rpLL_iff, List.flatten_append]
        refine (rpLL_iff.1 (i1 R)).append ?_
        simpa using g2 R
    refine ⟨c, (List.range len).map g, e0, fun a ha => ?_, fun R => ?_, by rw [h1]; rfl, .inr ?_⟩
    · obtain ⟨j, hj, rfl⟩ := List.mem_map.1 ha
      exact (hg j (List.mem_range.1 hj)).1
    · rw [h1]
      simp only [Rp]
      refine .inr ⟨.old b, i, cap, true, 1, by simp, trivial, by simpa using hlc, ?_, ?_⟩
      · intro r hr
        obtain ⟨a, _, rfl⟩ := List.mem_map.1 hr
        exact hrow a
      · by_cases h0 : len = 0
        · left; subst h0; rfl
        · right
          obtain ⟨_, all, g1, _⟩ := hg 0 (by omega)
          obtain ⟨m1, m2⟩ := main all g1 len (Nat.le_refl _)
          exact ⟨all, g1, by simpa using m1 R, by simpa using m2⟩
    · obtain ⟨k, hk1, hk2⟩ := hk
      exact ⟨k, hk1, by simpa using hk2⟩
end
section
variable {H : Type} {enc : TypeId × Value → H} {P : Program} {W : World} {hd : Bool}
theorem rd_int {n : Nat} {t : TypeId} {k : IntKind} {cs : List Value} {x : DataW H × List MemPlace} (ht : P.underlying t = some (.int k)) (h : DataW.trod enc P W 0 (fun _ => true) hd n t cs = some x) :
    ∃ z : Int, (Lit.int k z).wf = true ∧ (∀ R, RpL (envOf W) R [.int k z] (cs.map old1)) ∧ (cs.map old1).all scalar = true := by
  obtain ⟨z, rfl, w⟩ := trod_int ht h
  refine ⟨z, w, fun R => ?_, rfl⟩
  simp only [List.map_cons, List.map_nil, RpL, Rp]
  exact ⟨_, _, rfl, rfl, rfl⟩
end
section
variable {H : Type} {enc : TypeId × Value → H} {P : Program} {W : World} {hd : Bool}
end
end Go.Am.Old
end
