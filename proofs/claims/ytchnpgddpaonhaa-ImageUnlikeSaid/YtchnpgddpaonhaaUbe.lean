/-
  Texts Gd Ge Gf, as far as they are used.
-/
import Derived.Test.YtchnpgddpaonhaaUba
import Derived.Test.YtchnpgddpaonhaaUbd
section
open Go.Proofs Go Go.Am Go.Op
namespace Go.Proofs.Ytchnpgddpaonhaa.d
set_option linter.unusedVariables false
set_option linter.unusedSimpArgs false
set_option maxRecDepth 100000
/-- Is a type's number there? -/
def thereS (m : Mo) (t : Int) : Bool := decide (1 ≤ t ∧ t ≤ 5) || decide (16 ≤ t ∧ t - 16 < m.types.length)
def flatS (m : Mo) (t : Ty) : Bool := decide (t.name = []) && decide (t.fields.length = 0) && thereS m t.elem
def mayTyS (m : Mo) (t : Ty) : Bool :=
  if t.kind = 6 then decide (t.elem = 0) && decide (t.len = 0) && t.fields.all fun f => thereS m f.2
  else if t.kind = 7 then flatS m t && decide (0 ≤ t.len ∧ t.len ≤ 65536)
  else if t.kind = 8 then flatS m t && decide (t.len = 0) else false
def mayInS (m : Mo) (r : Ro) (y : In) : Bool := decide ((takesS y m).2.2 = 0) && !(decide (y.op = 7 ∨ y.op = 8) && decide (r.locals ≤ y.a))
def mayRoS (m : Mo) (r : Ro) : Bool :=
  r.params.all (thereS m) && r.results.all (thereS m) && !decide (r.locals < r.params.length) && !decide (r.stack < 0) &&
    decide ((allL (allS r.code)).2.2 = 0) && (allL (allS r.code)).1.all (mayInS m r)
section
variable {E : Env} {w0 : World} {x : Bool}
/-- A function value decides something of a value, in a state. -/
def Decides (E : Env) (w0 : World) (x : Bool) (S : DSt) (fv d : D) (b : Bool) : Prop := ∀ K : D → DSt → Prop, K (.bool b) S → callVD Try.prog (DFn Try.prog E w0 x) S fv [d] K
theorem decides_of {f : FuncId} (hf : bodied Try.prog f = true) {cs : List D} {d : D} {b : Bool} {S : DSt} (h : DFn Try.prog E w0 x f (d :: cs) S fun d' S' => d' = .bool b ∧ S' = S) : Decides E w0 x S (.fn (.func f) [] cs) d b := fun K hK => by
  simp only [callVD, enterD, hf, List.nil_append, List.singleton_append, if_true]
  refine h.use fun d' S' ⟨h1, h2⟩ => ?_
  subst h1 h2
  exact hK
/-- Where the first one stands. -/
def idxS {α : Type} (p : α → Bool) (l : List α) : Int := match l.findIdx? p with
  | some i => (i : Int)
  | none => -1
theorem findIdx_take {α : Type} {p : α → Bool} {l : List α} {i : Nat} (h : (l.take i).any p = false) (hi : i ≤ l.length) : l.findIdx? p = ((l.drop i).findIdx? p).map (· + i) := by
  induction l generalizing i with
  | nil => simp
  | cons a l ih =>
    cases i with
    | zero => simp
    | succ i =>
      simp only [List.take_succ_cons, List.any_cons, Bool.or_eq_false_iff] at h
      rw [List.drop_succ_cons, List.findIdx?_cons, h.1]
      simp only [Bool.false_eq_true, if_false, ih h.2 (by simpa using hi), Option.map_map]
      cases (l.drop i).findIdx? p <;> simp [Function.comp]; omega
theorem idxS_ge {α : Type} {p : α → Bool} {l : List α} : decide (idxS p l ≥ 0) = l.any p := by
  unfold idxS
  cases h : l.findIdx? p with
  | none =>
    have : ∀ a ∈ l, p a = false := by simpa [List.findIdx?_eq_none_iff] using h
    have : l.any p = false := by rw [List.any_eq_false]; intro a ha; simp [this a ha]
    rw [this]; rfl
  | some i =>
    have hi := List.findIdx?_eq_some_iff_getElem.1 h
    obtain ⟨h1, h2, _⟩ := hi
    have : l.any p = true := List.any_eq_true.2 ⟨_, List.getElem_mem h1, h2⟩
    rw [this]
    exact decide_eq_true (by simp)
/-- The loop of IndexFunc, told once. -/
theorem idx_step {α : Type} {p : α → Bool} {l : List α} {i : Nat} (h : (l.take i).any p = false) (hi : i < l.length) : (p l[i] = true → idxS p l = (i : Int)) ∧ (p l[i] = false → (l.take (i + 1)).any p = false) := by
  constructor
  · intro hp
    unfold idxS
    rw [findIdx_take h (by omega), List.drop_eq_getElem_cons hi, List.findIdx?_cons, hp]
    simp
  · intro hp
    rw [List.take_add_one, List.getElem?_eq_getElem hi, List.any_append, h]
    simpa using hp
theorem idx_end {α : Type} {p : α → Bool} {l : List α} (h : l.any p = false) : idxS p l = -1 := by
  unfold idxS
  have : l.findIdx? p = none := by
    rw [List.findIdx?_eq_none_iff]
    intro a ha
    have := List.any_eq_false.1 h a ha
    simpa using this
  rw [this]
theorem IndexFld_ok {l : List (Tx × Int)} {p : Tx × Int → Bool} {fv : D} (hl : l.length < 2 ^ 60) {S : DSt} (hp : ∀ y ∈ l, Decides E w0 x S fv (.agg (fldR y)) (p y)) : DFn Try.prog E w0 x f_slices_IndexFunc_api_Field [fldsD l, fv] S fun d S' => d = .int .i64 (idxS p l) ∧ S' = S := by
  refine V_slices_IndexFunc_api_Field_ok ?_
  unfold V_slices_IndexFunc_api_Field
  rw [fldsD_len, oD]
  refine loop_slices_IndexFunc_api_Field_0 (I := fun n x0 x1 x7 x8 T => S = T ∧ x0 = fldsD l ∧ fv = x1 ∧ x7 = .int .i64 (l.length : Int) ∧ ∃ i : Nat, x8 = .int .i64 (i : Int) ∧ i + n = l.length ∧ (l.take i).any p = false) ?_ (n := l.length) ⟨rfl, rfl, rfl, rfl, 0, rfl, by omega, rfl⟩
  rintro n _ _ _ _ _ ⟨rfl, rfl, rfl, rfl, i, rfl, hi, ht⟩
  unfold B_slices_IndexFunc_api_Field_0
  rw [biLt, oD, cdI]
  refine ⟨fun hlt => ?_, fun hge => ?_⟩
  · have hlt : i < l.length := by omega
    obtain ⟨s1, s2⟩ := idx_step ht hlt
    rw [fldsD_at (List.getElem?_eq_getElem hlt), oD, laFld, oD]
    refine hp _ (List.getElem_mem _) _ ?_
    rw [cdB]
    refine ⟨fun h => FinD.here ⟨by rw [s1 h], rfl⟩, fun h => ?_⟩
    rw [biAdd, oD, wrap_i64 (by omega) (by omega)]
    exact ⟨n - 1, by omega, rfl, rfl, rfl, rfl, i + 1, rfl, by omega, s2 h⟩
  · rw [List.take_of_length_le (by omega)] at ht
    exact FinD.here ⟨by rw [idx_end ht], rfl⟩
theorem IndexStr_ok {l : List Tx} {p : Tx → Bool} {fv : D} (hl : l.length < 2 ^ 60) {S : DSt} (hp : ∀ y ∈ l, Decides E w0 x S fv (.str y) (p y)) : DFn Try.prog E w0 x f_slices_IndexFunc_string [txsD l, fv] S fun d S' => d = .int .i64 (idxS p l) ∧ S' = S := by
  refine V_slices_IndexFunc_string_ok ?_
  unfold V_slices_IndexFunc_string
  rw [txsD_len, oD]
  refine loop_slices_IndexFunc_string_0 (I := fun n x0 x1 x7 x8 T => S = T ∧ x0 = txsD l ∧ fv = x1 ∧ x7 = .int .i64 (l.length : Int) ∧ ∃ i : Nat, x8 = .int .i64 (i : Int) ∧ i + n = l.length ∧ (l.take i).any p = false) ?_ (n := l.length) ⟨rfl, rfl, rfl, rfl, 0, rfl, by omega, rfl⟩
  rintro n _ _ _ _ _ ⟨rfl, rfl, rfl, rfl, i, rfl, hi, ht⟩
  unfold B_slices_IndexFunc_string_0
  rw [biLt, oD, cdI]
  refine ⟨fun hlt => ?_, fun hge => ?_⟩
  · have hlt : i < l.length := by omega
    obtain ⟨s1, s2⟩ := idx_step ht hlt
    rw [txsD_at (List.getElem?_eq_getElem hlt), oD, lsE, List.getElem?_cons_zero, oD]
    refine hp _ (List.getElem_mem _) _ ?_
    rw [cdB]
    refine ⟨fun h => FinD.here ⟨by rw [s1 h], rfl⟩, fun h => ?_⟩
    rw [biAdd, oD, wrap_i64 (by omega) (by omega)]
    exact ⟨n - 1, by omega, rfl, rfl, rfl, rfl, i + 1, rfl, by omega, s2 h⟩
  · rw [List.take_of_length_le (by omega)] at ht
    exact FinD.here ⟨by rw [idx_end ht], rfl⟩
theorem IndexInt_ok {l : List Int} {p : Int → Bool} {fv : D} (hl : l.length < 2 ^ 60) {S : DSt} (hp : ∀ y ∈ l, Decides E w0 x S fv (.int .i64 y) (p y)) : DFn Try.prog E w0 x f_slices_IndexFunc_int [iD l, fv] S fun d S' => d = .int .i64 (idxS p l) ∧ S' = S := by
  refine V_slices_IndexFunc_int_ok ?_
  unfold V_slices_IndexFunc_int
  rw [iD_len, oD]
  refine loop_slices_IndexFunc_int_0 (I := fun n x0 x1 x7 x8 T => S = T ∧ x0 = iD l ∧ fv = x1 ∧ x7 = .int .i64 (l.length : Int) ∧ ∃ i : Nat, x8 = .int .i64 (i : Int) ∧ i + n = l.length ∧ (l.take i).any p = false) ?_ (n := l.length) ⟨rfl, rfl, rfl, rfl, 0, rfl, by omega, rfl⟩
  rintro n _ _ _ _ _ ⟨rfl, rfl, rfl, rfl, i, rfl, hi, ht⟩
  unfold B_slices_IndexFunc_int_0
  rw [biLt, oD, cdI]
  refine ⟨fun hlt => ?_, fun hge => ?_⟩
  · have hlt : i < l.length := by omega
    obtain ⟨s1, s2⟩ := idx_step ht hlt
    rw [iD_at (List.getElem?_eq_getElem hlt), oD, lsE, List.getElem?_cons_zero, oD]
    refine hp _ (List.getElem_mem _) _ ?_
    rw [cdB]
    refine ⟨fun h => FinD.here ⟨by rw [s1 h], rfl⟩, fun h => ?_⟩
    rw [biAdd, oD, wrap_i64 (by omega) (by omega)]
    exact ⟨n - 1, by omega, rfl, rfl, rfl, rfl, i + 1, rfl, by omega, s2 h⟩
  · rw [List.take_of_length_le (by omega)] at ht
    exact FinD.here ⟨by rw [idx_end ht], rfl⟩
theorem laIn (S : DSt) (y : In) : loadAg S 4 (.elt (inC y) 0) = some (.agg (inC y)) := rfl
theorem insD_at' {l : List In} {i : Nat} {y : In} (h : l[i]? = some y) : idxSl 4 (insD l) (.int .i64 (i : Int)) = some (.elt (inC y) 0) := idxL (by rw [List.getElem?_map, h]; rfl)
theorem IndexIn_ok {l : List In} {p : In → Bool} {fv : D} (hl : l.length < 2 ^ 60) {S : DSt} (hp : ∀ y ∈ l, Decides E w0 x S fv (inD y) (p y)) : DFn Try.prog E w0 x f_slices_IndexFunc_api_Instr [insD l, fv] S fun d S' => d = .int .i64 (idxS p l) ∧ S' = S := by
  refine V_slices_IndexFunc_api_Instr_ok ?_
  unfold V_slices_IndexFunc_api_Instr
  rw [show lenSl (insD l) = some (.int .i64 (l.length : Int)) by simp [insD], oD]
  refine loop_slices_IndexFunc_api_Instr_0 (I := fun n x0 x1 x7 x8 T => S = T ∧ x0 = insD l ∧ fv = x1 ∧ x7 = .int .i64 (l.length : Int) ∧ ∃ i : Nat, x8 = .int .i64 (i : Int) ∧ i + n = l.length ∧ (l.take i).any p = false) ?_ (n := l.length) ⟨rfl, rfl, rfl, rfl, 0, rfl, by omega, rfl⟩
  rintro n _ _ _ _ _ ⟨rfl, rfl, rfl, rfl, i, rfl, hi, ht⟩
  unfold B_slices_IndexFunc_api_Instr_0
  rw [biLt, oD, cdI]
  refine ⟨fun hlt => ?_, fun hge => ?_⟩
  · have hlt : i < l.length := by omega
    obtain ⟨s1, s2⟩ := idx_step ht hlt
    rw [insD_at' (List.getElem?_eq_getElem hlt), oD, laIn, oD]
    refine hp _ (List.getElem_mem _) _ ?_
    rw [cdB]
    refine ⟨fun h => FinD.here ⟨by rw [s1 h], rfl⟩, fun h => ?_⟩
    rw [biAdd, oD, wrap_i64 (by omega) (by omega)]
    exact ⟨n - 1, by omega, rfl, rfl, rfl, rfl, i + 1, rfl, by omega, s2 h⟩
  · rw [List.take_of_length_le (by omega)] at ht
    exact FinD.here ⟨by rw [idx_end ht], rfl⟩
theorem HasFld_ok {l : List (Tx × Int)} {p : Tx × Int → Bool} {fv : D} (hl : l.length < 2 ^ 60) {S : DSt} (hp : ∀ y ∈ l, Decides E w0 x S fv (.agg (fldR y)) (p y)) : DFn Try.prog E w0 x f_slices_ContainsFunc_api_Field [fldsD l, fv] S fun d S' => d = .bool (l.any p) ∧ S' = S := by
  refine V_slices_ContainsFunc_api_Field_ok ?_
  unfold V_slices_ContainsFunc_api_Field
  refine (IndexFld_ok hl hp).use fun d S' ⟨h1, h2⟩ => ?_
  subst h1 h2
  rw [biGe, oD, idxS_ge]; exact FinD.here ⟨rfl, rfl⟩
theorem HasStr_ok {l : List Tx} {p : Tx → Bool} {fv : D} (hl : l.length < 2 ^ 60) {S : DSt} (hp : ∀ y ∈ l, Decides E w0 x S fv (.str y) (p y)) : DFn Try.prog E w0 x f_slices_ContainsFunc_string [txsD l, fv] S fun d S' => d = .bool (l.any p) ∧ S' = S := by
  refine V_slices_ContainsFunc_string_ok ?_
  unfold V_slices_ContainsFunc_string
  refine (IndexStr_ok hl hp).use fun d S' ⟨h1, h2⟩ => ?_
  subst h1 h2
  rw [biGe, oD, idxS_ge]; exact FinD.here ⟨rfl, rfl⟩
theorem HasInt_ok {l : List Int} {p : Int → Bool} {fv : D} (hl : l.length < 2 ^ 60) {S : DSt} (hp : ∀ y ∈ l, Decides E w0 x S fv (.int .i64 y) (p y)) : DFn Try.prog E w0 x f_slices_ContainsFunc_int [iD l, fv] S fun d S' => d = .bool (l.any p) ∧ S' = S := by
  refine V_slices_ContainsFunc_int_ok ?_
  unfold V_slices_ContainsFunc_int
  refine (IndexInt_ok hl hp).use fun d S' ⟨h1, h2⟩ => ?_
  subst h1 h2
  rw [biGe, oD, idxS_ge]; exact FinD.here ⟨rfl, rfl⟩
theorem HasIn_ok {l : List In} {p : In → Bool} {fv : D} (hl : l.length < 2 ^ 60) {S : DSt} (hp : ∀ y ∈ l, Decides E w0 x S fv (inD y) (p y)) : DFn Try.prog E w0 x f_slices_ContainsFunc_api_Instr [insD l, fv] S fun d S' => d = .bool (l.any p) ∧ S' = S := by
  refine V_slices_ContainsFunc_api_Instr_ok ?_
  unfold V_slices_ContainsFunc_api_Instr
  refine (IndexIn_ok hl hp).use fun d S' ⟨h1, h2⟩ => ?_
  subst h1 h2
  rw [biGe, oD, idxS_ge]; exact FinD.here ⟨rfl, rfl⟩
theorem t1' : (true == false) = false := rfl
theorem t2' : (false == false) = true := rfl
theorem t3' : (false == true) = false := rfl
theorem t4' : (true == true) = true := rfl
theorem image_there_ok {m : Mo} (hm : m.Ok) {t : Int} (ht : I64 t) : Pure Try.prog E w0 f_image_there [moD m, .int .i64 t] (.bool (thereS m t)) := fun x S => by
  refine V_image_there_ok ?_
  unfold V_image_there
  rw [moD, clA, oD]
  intro k a n
  have h0 : Cel (S.set k ⟨3, [moC m], a⟩) k 3 (moC m) := Cel.new
  rw [show (moC m).length = 3 from rfl]
  have h2 := hm.types
  obtain ⟨i1, i2⟩ := ht
  have ld : loadSc (S.set k ⟨3, [moC m], a⟩) (.ptr k 0) = some (tysD m.types) := h0.ld 0
  have fin : ∀ b : Bool, thereS m t = b → FinD E (fun d' S' => d' = .bool (thereS m t) ∧ S' = S) (.bool b) (S.set k ⟨3, [moC m], a⟩) := fun b h => by rw [h]; exact FinD.drop n FinD.pure
  rw [biLe, oD]
  by_cases c1 : 1 ≤ t
  · simp only [decide_eq_true c1, wdB, t4', vdT, oD, pdB, if_true, biLe]
    by_cases c2 : t ≤ 5
    · simp only [decide_eq_true c2, wdB, t1', vdF, oD, pdB, if_true]
      exact fin true (by unfold thereS; rw [decide_eq_true ⟨c1, c2⟩]; rfl)
    · simp only [decide_eq_false c2, wdB, t2', vdT, oD, pdB, Bool.false_eq_true, if_false, biGe]
      by_cases c3 : t ≥ 16
      · simp only [decide_eq_true c3, wdB, t4', vdT, oD, pdB, if_true, biSub, ofP, Nat.zero_add, ld, tysD_len, biLt]
        rw [wrap_i64 (by omega) (by omega)]
        refine fin _ ?_
        unfold thereS
        rw [decide_eq_false (fun h => c2 h.2), Bool.false_or]
        exact decide_eq_decide.2 ⟨fun h => h.2, fun h => ⟨c3, h⟩⟩
      · simp only [decide_eq_false c3, wdB, t3', vdF, oD, pdB, Bool.false_eq_true, if_false]
        exact fin false (by unfold thereS; rw [decide_eq_false (fun h => c2 h.2), decide_eq_false (fun h => c3 h.1)]; rfl)
  · have c3 : ¬ t ≥ 16 := by omega
    simp only [decide_eq_false c1, wdB, t3', t2', vdT, vdF, oD, pdB, Bool.false_eq_true, if_false, biGe, decide_eq_false c3]
    exact fin false (by unfold thereS; rw [decide_eq_false (fun h => c1 h.1), decide_eq_false (fun h => c3 h.1)]; rfl)
end
end Go.Proofs.Ytchnpgddpaonhaa.d
end

section
open Go.Proofs Go Go.Am Go.Op
namespace Go.Proofs.Ytchnpgddpaonhaa.d
set_option linter.unusedVariables false
set_option linter.unusedSimpArgs false
set_option maxRecDepth 100000
def longTyS (t : Ty) : Bool := decide (t.fields.length > 32) || decide (t.name.length > 65536) || t.fields.any fun f => decide (f.1.length > 65536)
def longRoS (r : Ro) : Bool := decide (r.params.length > 32) || decide (r.results.length > 8) || decide (r.locals > 256) || decide (r.stack > 4096) || decide (r.code.length > 65536) || decide (r.name.length > 65536)
def tyErr (m : Mo) (t : Ty) : Int := if longTyS t = true then 3 else if mayTyS m t = true then 0 else 130
def roErr (m : Mo) (r : Ro) : Int := if longRoS r = true then 3 else if mayRoS m r = true then 0 else 130
/-- The first that is not 0. -/
def first0 {α : Type} (f : α → Int) : List α → Int
  | [] => 0
  | a :: l => if f a = 0 then first0 f l else f a
theorem first0_drop {α : Type} {f : α → Int} {l : List α} {i : Nat} (hi : i < l.length) : first0 f (l.drop i) = if f l[i] = 0 then first0 f (l.drop (i + 1)) else f l[i] := by
  rw [List.drop_eq_getElem_cons hi, first0]
/-- What is wrong with a module, but for its size. -/
def structS (m : Mo) : Int :=
  if m.types.length > 256 ∨ m.texts.length > 32768 ∨ m.funcs.length > 256 then 3
  else if first0 (tyErr m) m.types ≠ 0 then first0 (tyErr m) m.types
  else if m.texts.any (fun t => decide (t.length > 65536)) = true then 3 else first0 (roErr m) m.funcs
theorem any_not {α : Type} {p : α → Bool} (l : List α) : (!l.any fun a => !p a) = l.all p := by
  induction l with
  | nil => rfl
  | cons a l ih => rw [List.any_cons, List.all_cons, ← ih]; cases p a <;> simp
section
variable {E : Env} {w0 : World}
theorem mayType_1_ok {x : Bool} {m : Mo} (hm : m.Ok) {f : Tx × Int} (hf : I64 f.2) {S : DSt} {k : Nat} (hk : Cel S k 3 (moC m)) : DFn Try.prog E w0 x f_image_mayType_1 [.agg (fldR f), .ptr k 0] S fun d S' => d = .bool (!thereS m f.2) ∧ S' = S := by
  refine V_image_mayType_1_ok ?_
  unfold V_image_mayType_1
  rw [clA, oD]
  intro k0 a0 n0
  have c0 : Cel (S.set k0 ⟨2, [fldR f], a0⟩) k0 2 (fldR f) := Cel.new
  rw [show (fldR f).length = 2 from rfl, (hk.set n0).all (n := 3) (by decide) rfl, oD, ofP, oD, c0.ld, show (fldR f)[0 + 1]? = some (.int .i64 f.2) from rfl, oD]
  refine (image_there_ok hm hf).use ?_
  rw [unN, oD]
  exact FinD.drop n0 (FinD.here ⟨rfl, rfl⟩)
theorem flat_ok {m : Mo} {t : Ty} : flatS m t = (decide (t.name = []) && decide (t.fields.length = 0) && thereS m t.elem) := rfl
theorem image_mayType_ok {m : Mo} (hm : m.Ok) {t : Ty} (ht : t.Ok) : Pure Try.prog E w0 f_image_mayType [moD m, .agg (tyR t)] (.bool (mayTyS m t)) := fun x S => by
  refine V_image_mayType_ok ?_
  unfold V_image_mayType
  rw [moD, clA, oD]
  intro k a n
  rw [clA, oD]
  intro k2 a2 n2
  obtain ⟨ne2, n2'⟩ := DSt.fresh n2
  generalize hS3 : (S.set k _).set k2 _ = S3
  have h2 : Cel S3 k2 5 (tyR t) := by rw [← hS3]; exact Cel.new
  have h0 : Cel S3 k 3 (moC m) := by rw [← hS3]; exact (Cel.new).set n2
  have hle : S.le S3 := by rw [← hS3]; exact DSt.le_set (DSt.le_new n) n2'
  have q0 : (tyR t)[0]? = some (.int .u8 t.kind) := rfl
  have q1 : (tyR t)[1]? = some (.str t.name) := rfl
  have q2 : (tyR t)[2]? = some (fldsD t.fields) := rfl
  have q3 : (tyR t)[3]? = some (.int .i64 t.elem) := rfl
  have q4 : (tyR t)[4]? = some (.int .i64 t.len) := rfl
  have fin : ∀ b : Bool, mayTyS m t = b → FinD E (fun d' S' => d' = .bool (mayTyS m t) ∧ S' = S) (.bool b) S3 := fun b h => by rw [h]; exact FinD.less hle FinD.pure
  have hfl := ht.fields
  have beqN : ∀ a : Tx, binS .eql (.str a) (.str []) = some (.bool (decide (a = []))) := fun a => by rw [bsEq, beqT]
  have lc : decide ((t.fields.length : Int) = 0) = decide (t.fields.length = 0) := decide_eq_decide.2 (by omega)
  simp only [ofP, oD, Nat.zero_add, h2.ld, q1, beqN]
  -- behind 'flat'
  have rest : ∀ (b : Bool), b = flatS m t →
      (optW (loadSc S3 (.ptr k2 0)) fun v19 => optW (binI .eql v19 (.int .u8 6)) fun v20 => condD v20
        (optW (loadSc S3 (.ptr k2 3)) fun v22 => optW (binI .eql v22 (.int .i64 0)) fun v23 => optW (valGD (wantsD v23 true) (offD 4 (.ptr k2 0))) fun v24 => optW (valGD (wantsD v23 true) (loadSc S3 v24)) fun v25 => optW (valGD (wantsD v23 true) (binI .eql v25 (.int .i64 0))) fun v26 => optW (pickD v23 v26 (.bool false)) fun v27 =>
          optW (valGD (wantsD v27 true) (offD 2 (.ptr k2 0))) fun v28 => optW (valGD (wantsD v27 true) (loadSc S3 v28)) fun v29 => optW (valGD (wantsD v27 true) (some (.fn (.func f_image_mayType_1) [] [.ptr k 0]))) fun v30 =>
          guardD (wantsD v27 true) (fun K => DFn Try.prog E w0 x f_slices_ContainsFunc_api_Field [v29, v30] S3 K) S3 fun v31 S32 => optW (valGD (wantsD v27 true) (unD .not v31)) fun v33 => optW (pickD v27 v33 (.bool false)) fun v34 => FinD E (fun d' S' => d' = .bool (mayTyS m t) ∧ S' = S) v34 S32)
        (optW (binI .eql v19 (.int .u8 7)) fun v35 => condD v35
          (optW (valGD (wantsD (.bool b) true) (offD 4 (.ptr k2 0))) fun v36 => optW (valGD (wantsD (.bool b) true) (loadSc S3 v36)) fun v37 => optW (valGD (wantsD (.bool b) true) (binI .geq v37 (.int .i64 0))) fun v38 => optW (pickD (.bool b) v38 (.bool false)) fun v39 =>
            optW (valGD (wantsD v39 true) (offD 4 (.ptr k2 0))) fun v40 => optW (valGD (wantsD v39 true) (loadSc S3 v40)) fun v41 => optW (valGD (wantsD v39 true) (binI .leq v41 (.int .i64 65536))) fun v42 => optW (pickD v39 v42 (.bool false)) fun v43 => FinD E (fun d' S' => d' = .bool (mayTyS m t) ∧ S' = S) v43 S3)
          (optW (binI .eql v19 (.int .u8 8)) fun v44 => condD v44
            (optW (valGD (wantsD (.bool b) true) (offD 4 (.ptr k2 0))) fun v45 => optW (valGD (wantsD (.bool b) true) (loadSc S3 v45)) fun v46 => optW (valGD (wantsD (.bool b) true) (binI .eql v46 (.int .i64 0))) fun v47 => optW (pickD (.bool b) v47 (.bool false)) fun v48 => FinD E (fun d' S' => d' = .bool (mayTyS m t) ∧ S' = S) v48 S3)
            (FinD E (fun d' S' => d' = .bool (mayTyS m t) ∧ S' = S) (.bool false) S3)))) := fun b hb => by
    rw [h2.ld, q0, oD, biEqD, oD, cdI]
    refine ⟨fun k6 => ?_, fun k6 => ?_⟩
    · have e6 : mayTyS m t = (decide (t.elem = 0) && decide (t.len = 0) && t.fields.all fun f => thereS m f.2) := by unfold mayTyS; rw [if_pos k6]
      simp only [h2.ld, q3, oD, biEqD]
      by_cases c1 : t.elem = 0
      case neg => simp only [decide_eq_false c1, wdB, t3', vdF, gdF, oD, pdB, Bool.false_eq_true, if_false]; exact fin false (by rw [e6, decide_eq_false c1]; rfl)
      simp only [decide_eq_true c1, wdB, t4', vdT, oD, pdB, if_true, ofP, Nat.zero_add, h2.ld, q4, biEqD]
      by_cases c2 : t.len = 0
      case neg => simp only [decide_eq_false c2, wdB, t3', vdF, gdF, oD, pdB, Bool.false_eq_true, if_false]; exact fin false (by rw [e6, decide_eq_false c2, Bool.and_false]; rfl)
      simp only [decide_eq_true c2, wdB, t4', vdT, gdT, oD, pdB, if_true, ofP, Nat.zero_add, h2.ld, q2]
      refine (HasFld_ok (p := fun f => !thereS m f.2) (by omega) fun f hf => decides_of (cs := [.ptr k 0]) (by kernel_rfl) (mayType_1_ok hm (ht.names f hf).2 h0)).use fun d S' ⟨h1, h2⟩ => ?_
      subst h1 h2
      simp only [unN, oD, vdT, pdB, if_true]
      refine fin _ ?_
      rw [e6, decide_eq_true c1, decide_eq_true c2, any_not]; rfl
    rw [biEqD, oD, cdI]
    refine ⟨fun k7 => ?_, fun k7 => ?_⟩
    · have e7 : mayTyS m t = (flatS m t && decide (0 ≤ t.len ∧ t.len ≤ 65536)) := by unfold mayTyS; rw [if_neg k6, if_pos k7]
      rw [← hb] at e7
      cases b with
      | false => simp only [wdB, t3', vdF, gdF, oD, pdB, Bool.false_eq_true, if_false]; exact fin false (by rw [e7]; rfl)
      | true =>
        simp only [wdB, t4', vdT, oD, pdB, if_true, ofP, Nat.zero_add, h2.ld, q4, biGe]
        by_cases c1 : t.len ≥ 0
        · simp only [decide_eq_true c1, wdB, t4', vdT, oD, pdB, if_true, ofP, Nat.zero_add, h2.ld, q4, biLe]
          exact fin _ (by rw [e7, Bool.true_and]; exact decide_eq_decide.2 ⟨fun h => h.2, fun h => ⟨c1, h⟩⟩)
        · simp only [decide_eq_false c1, wdB, t3', vdF, oD, pdB, Bool.false_eq_true, if_false]
          exact fin false (by rw [e7, decide_eq_false (fun h => c1 h.1)]; rfl)
    rw [biEqD, oD, cdI]
    refine ⟨fun k8 => ?_, fun k8 => fin false (by unfold mayTyS; rw [if_neg k6, if_neg k7, if_neg k8])⟩
    have e8 : mayTyS m t = (flatS m t && decide (t.len = 0)) := by unfold mayTyS; rw [if_neg k6, if_neg k7, if_pos k8]
    rw [← hb] at e8
    cases b with
    | false => simp only [wdB, t3', vdF, gdF, oD, pdB, Bool.false_eq_true, if_false]; exact fin false (by rw [e8]; rfl)
    | true =>
      simp only [wdB, t4', vdT, oD, pdB, if_true, ofP, Nat.zero_add, h2.ld, q4, biEqD]
      exact fin _ (by rw [e8, Bool.true_and])
  by_cases c1 : t.name = []
  case neg =>
    simp only [decide_eq_false c1, wdB, t3', vdF, gdF, oD, pdB, Bool.false_eq_true, if_false]
    exact rest false (by rw [flat_ok, decide_eq_false c1]; rfl)
  simp only [decide_eq_true c1, wdB, t4', vdT, oD, pdB, if_true, h2.ld, q2, fldsD_len, biEqD, lc]
  by_cases c2 : t.fields.length = 0
  case neg =>
    simp only [decide_eq_false c2, wdB, t3', vdF, gdF, oD, pdB, Bool.false_eq_true, if_false]
    exact rest false (by rw [flat_ok, decide_eq_false c2, Bool.and_false]; rfl)
  simp only [decide_eq_true c2, wdB, t4', vdT, gdT, oD, pdB, if_true, h2.ld, q3]
  rw [h0.all (n := 3) (by decide) rfl, oD]
  refine (show DFn Try.prog E w0 x f_image_there [moD m, .int .i64 t.elem] S3 _ from (image_there_ok hm ht.elem).use ?_)
  exact rest _ (by rw [flat_ok, decide_eq_true c1, decide_eq_true c2]; rfl)
theorem mayFunc_1_ok {x : Bool} {m : Mo} (hm : m.Ok) {t : Int} (ht : I64 t) {S : DSt} {k : Nat} (hk : Cel S k 3 (moC m)) : DFn Try.prog E w0 x f_image_mayFunc_1 [.int .i64 t, .ptr k 0] S fun d S' => d = .bool (!thereS m t) ∧ S' = S := by
  refine V_image_mayFunc_1_ok ?_
  unfold V_image_mayFunc_1
  rw [hk.all (n := 3) (by decide) rfl, oD]
  refine (show DFn Try.prog E w0 x f_image_there [moD m, .int .i64 t] S _ from (image_there_ok hm ht).use ?_)
  rw [unN, oD]
  exact FinD.here ⟨rfl, rfl⟩
theorem mayFunc_2_ok {m : Mo} (hm : m.Fits) {r : Ro} {y : In} (hy : y.Ok) {S : DSt} {k k2 : Nat} (hk : Cel S k 3 (moC m)) (hk2 : Cel S k2 6 (roR r)) : DFn Try.prog E w0 false f_image_mayFunc_2 [inD y, .ptr k 0, .ptr k2 0] S fun d S' => d = .bool (!mayInS m r y) ∧ S' = S := by
  refine V_image_mayFunc_2_ok ?_
  unfold V_image_mayFunc_2
  rw [inD, clA, oD]
  intro k0 a0 n0
  have c0 : Cel (S.set k0 ⟨4, [inC y], a0⟩) k0 4 (inC y) := Cel.new
  rw [show (inC y).length = 4 from rfl, c0.all (n := 4) (by decide) rfl, oD, (hk.set n0).all (n := 3) (by decide) rfl, oD]
  refine (show DFn Try.prog E w0 false f_ops_Takes [inD y, moD m] _ _ from (ops_Takes_ok hy hm).use ?_)
  rintro v S' ⟨p, q, rfl, g⟩
  have hle := (Two.le g)
  have c0 := c0.le hle
  have c2 := (hk2.set (o := ⟨4, [inC y], a0⟩) n0).le hle
  have l0 : (inC y)[0]? = some (.int .u8 y.op) := rfl
  have l1 : (inC y)[1]? = some (.int .i64 y.a) := rfl
  have l3 : (roR r)[3]? = some (.int .i64 r.locals) := rfl
  have hS : S.le S' := DSt.le_trans (DSt.le_new n0) hle
  have fin : ∀ b : Bool, mayInS m r y = !b → FinD E (fun d S' => d = .bool (!mayInS m r y) ∧ S' = S) (.bool b) S' := fun b h => by rw [h, Bool.not_not]; exact FinD.less hS (FinD.here ⟨rfl, rfl⟩)
  simp only [exD, List.getElem?_cons_zero, List.getElem?_cons_succ, oD, biNeD]
  by_cases c1 : (takesS y m).2.2 = 0
  case neg =>
    simp only [decide_eq_true c1, ne_eq, not_false_eq_true, decide_true, wdB, t1', vdF, oD, pdB, if_true]
    exact fin true (by unfold mayInS; rw [decide_eq_false c1]; rfl)
  have c1' : decide ((takesS y m).2.2 ≠ 0) = false := decide_eq_false (fun h => h c1)
  have em : mayInS m r y = !(decide (y.op = 7 ∨ y.op = 8) && decide (r.locals ≤ y.a)) := by unfold mayInS; rw [decide_eq_true c1, Bool.true_and]
  simp only [c1', wdB, t2', vdT, oD, pdB, Bool.false_eq_true, if_false, ofP, Nat.zero_add, c0.ld, l0, biEqD]
  by_cases c7 : y.op = 7
  · simp only [decide_eq_true c7, wdB, t1', t4', vdF, vdT, oD, pdB, if_true, ofP, Nat.zero_add, c0.ld, c2.ld, l1, l3, biGe]
    refine fin _ ?_
    rw [em, decide_eq_true (.inl c7), Bool.true_and]
  simp only [decide_eq_false c7, wdB, t2', vdT, oD, pdB, Bool.false_eq_true, if_false, ofP, Nat.zero_add, c0.ld, l0, biEqD]
  by_cases c8 : y.op = 8
  · simp only [decide_eq_true c8, wdB, t4', vdT, oD, pdB, if_true, ofP, Nat.zero_add, c0.ld, c2.ld, l1, l3, biGe]
    refine fin _ ?_
    rw [em, decide_eq_true (.inr c8), Bool.true_and]
  · simp only [decide_eq_false c8, wdB, t3', vdF, oD, pdB, Bool.false_eq_true, if_false]
    exact fin false (by rw [em, decide_eq_false (fun h => h.elim c7 c8)]; rfl)
end
end Go.Proofs.Ytchnpgddpaonhaa.d
end

section
open Go.Proofs Go Go.Am Go.Op
namespace Go.Proofs.Ytchnpgddpaonhaa.d
set_option linter.unusedVariables false
set_option linter.unusedSimpArgs false
set_option maxRecDepth 100000
theorem any_is {α : Type} {p : α → Bool} (l : List α) : (l.any fun a => !p a) = !l.all p := by rw [← any_not, Bool.not_not]
section
variable {E : Env} {w0 : World}
theorem image_mayFunc_ok {m : Mo} (hm : m.Fits) {r : Ro} (hr : r.Ok) (hc : r.code.length < 2 ^ 30) : PureW Try.prog E w0 f_image_mayFunc [moD m, .agg (roR r)] (.bool (mayRoS m r)) := fun S => by
  refine V_image_mayFunc_ok ?_
  unfold V_image_mayFunc
  rw [moD, clA, oD]
  intro k a n
  rw [clA, oD]
  intro k2 a2 n2
  obtain ⟨ne2, n2'⟩ := DSt.fresh n2
  generalize hS3 : (S.set k _).set k2 _ = S3
  have h2 : Cel S3 k2 6 (roR r) := by rw [← hS3]; exact Cel.new
  have h0 : Cel S3 k 3 (moC m) := by rw [← hS3]; exact (Cel.new).set n2
  have hle : S.le S3 := by rw [← hS3]; exact DSt.le_set (DSt.le_new n) n2'
  have q1 : (roR r)[1]? = some (iD r.params) := rfl
  have q2 : (roR r)[2]? = some (iD r.results) := rfl
  have q3 : (roR r)[3]? = some (.int .i64 r.locals) := rfl
  have q4 : (roR r)[4]? = some (.int .i64 r.stack) := rfl
  have q5 : (roR r)[5]? = some (bD r.code) := rfl
  have fin : ∀ b : Bool, mayRoS m r = b → FinD E (fun d' S' => d' = .bool (mayRoS m r) ∧ S' = S) (.bool b) S3 := fun b h => by rw [h]; exact FinD.less hle FinD.pure
  have hp := hr.params
  have hq := hr.results
  have hmo := hm.ok
  simp only [oD, ofP, Nat.zero_add, h2.ld, q1]
  refine (HasInt_ok (p := fun t => !thereS m t) (by omega) fun t ht => decides_of (cs := [.ptr k 0]) (by kernel_rfl) (mayFunc_1_ok hmo (hr.ints t (List.mem_append_left _ ht)) h0)).use fun d S' ⟨g1, g2⟩ => ?_
  subst g1 g2
  rw [any_is]
  cases c1 : r.params.all (thereS m) with
  | false =>
    simp only [Bool.not_false, wdB, t1', vdF, gdF, oD, pdB, if_true, cdT]
    exact fin false (by unfold mayRoS; rw [c1]; rfl)
  | true =>
  simp only [Bool.not_true, wdB, t2', vdT, gdT, oD, h2.ld, ofP, Nat.zero_add, q2]
  refine (HasInt_ok (p := fun t => !thereS m t) (by omega) fun t ht => decides_of (cs := [.ptr k 0]) (by kernel_rfl) (mayFunc_1_ok hmo (hr.ints t (List.mem_append_right _ ht)) h0)).use fun d S' ⟨g1, g2⟩ => ?_
  subst g1 g2
  rw [any_is]
  cases c2 : r.results.all (thereS m) with
  | false =>
    simp only [Bool.not_false, wdB, t1', vdF, gdF, oD, pdB, Bool.false_eq_true, if_false, if_true, cdT]
    exact fin false (by unfold mayRoS; rw [c1, c2]; rfl)
  | true =>
  simp only [Bool.not_true, wdB, t2', vdT, gdT, oD, pdB, Bool.false_eq_true, if_false, h2.ld, ofP, Nat.zero_add, q3, q1, iD_len, biLt]
  by_cases c3 : r.locals < (r.params.length : Int)
  · simp only [decide_eq_true c3, wdB, t1', vdF, gdF, oD, pdB, if_true, cdT]
    exact fin false (by unfold mayRoS; rw [c1, c2, decide_eq_true c3]; rfl)
  simp only [decide_eq_false c3, wdB, t2', vdT, gdT, oD, pdB, Bool.false_eq_true, if_false, h2.ld, ofP, Nat.zero_add, q4, biLt]
  rw [cdI]
  refine ⟨fun c4 => fin false (by unfold mayRoS; rw [c1, c2, decide_eq_false c3, decide_eq_true c4]; rfl), fun c4 => ?_⟩
  rw [q5, oD]
  refine (ops_All_ok hr.bytes hc).use ?_
  rw [allV_is]
  simp only [exD, List.getElem?_cons_zero, List.getElem?_cons_succ, oD, biEqD]
  obtain ⟨i1, i2, i3⟩ := allL_ok (bs := r.code) hr.bytes
  have e0 : mayRoS m r = (decide ((allL (allS r.code)).2.2 = 0) && (allL (allS r.code)).1.all (mayInS m r)) := by unfold mayRoS; rw [c1, c2, decide_eq_false c3, decide_eq_false c4]; rfl
  by_cases c5 : (allL (allS r.code)).2.2 = 0
  · simp only [decide_eq_true c5, wdB, t4', vdT, gdT, oD, pdB, if_true]
    refine (HasIn_ok (p := fun y => !mayInS m r y) (by omega) fun y hy => decides_of (cs := [.ptr k 0, .ptr k2 0]) (by kernel_rfl) (mayFunc_2_ok hm (i1 y hy) h0 h2)).use fun d S' ⟨g1, g2⟩ => ?_
    subst g1 g2
    rw [any_is]
    simp only [unN, oD, vdT, pdB, if_true, Bool.not_not]
    exact fin _ (by rw [e0, decide_eq_true c5, Bool.true_and])
  · simp only [decide_eq_false c5, wdB, t3', vdF, gdF, oD, pdB, Bool.false_eq_true, if_false]
    exact fin false (by rw [e0, decide_eq_false c5, Bool.false_and])
theorem structure_1_ok {x : Bool} {f : Tx × Int} {S : DSt} : DFn Try.prog E w0 x f_image_structure_1 [.agg (fldR f)] S fun d S' => d = .bool (decide (f.1.length > 65536)) ∧ S' = S := by
  refine V_image_structure_1_ok ?_
  unfold V_image_structure_1
  rw [clA, oD]
  intro k0 a0 n0
  have c0 : Cel (S.set k0 ⟨2, [fldR f], a0⟩) k0 2 (fldR f) := Cel.new
  rw [show (fldR f).length = 2 from rfl, ofP, oD, c0.ld, show (fldR f)[0 + 0]? = some (.str f.1) from rfl, oD, lnS, oD, biGt, oD]
  exact FinD.drop n0 (FinD.here ⟨by rw [decide_eq_decide.2 (show (f.1.length : Int) > 65536 ↔ f.1.length > 65536 by omega)], rfl⟩)
theorem structure_2_ok {x : Bool} {t : Tx} {S : DSt} : DFn Try.prog E w0 x f_image_structure_2 [.str t] S fun d S' => d = .bool (decide (t.length > 65536)) ∧ S' = S := by
  refine V_image_structure_2_ok ?_
  unfold V_image_structure_2
  rw [lnS, oD, biGt, oD]
  exact FinD.here ⟨by rw [decide_eq_decide.2 (show (t.length : Int) > 65536 ↔ t.length > 65536 by omega)], rfl⟩
theorem gtN (a b : Nat) : binI .gtr (.int .i64 (a : Int)) (.int .i64 (b : Int)) = some (.bool (decide (a > b))) := by
  rw [biGt, decide_eq_decide.2 (show (a : Int) > (b : Int) ↔ a > b by omega)]
theorem image_structure_ok {m : Mo} (hm : m.Fits) : PureW Try.prog E w0 f_image_structure [moD m] (.int .i64 (structS m)) := fun S => by
  refine V_image_structure_ok ?_
  unfold V_image_structure
  rw [moD, clA, oD]
  intro k a n
  have h0 : Cel (S.set k ⟨3, [moC m], a⟩) k 3 (moC m) := Cel.new
  have hle : S.le (S.set k ⟨3, [moC m], a⟩) := DSt.le_new n
  rw [show (moC m).length = 3 from rfl]
  generalize S.set k ⟨3, [moC m], a⟩ = S1 at *
  have hmo := hm.ok
  have q0 : (moC m)[0]? = some (tysD m.types) := rfl
  have q1 : (moC m)[1]? = some (txsD m.texts) := rfl
  have q2 : (moC m)[2]? = some (rosD m.funcs) := rfl
  have t0 := hm.types
  have t1 := hm.texts
  have t2 := hm.funcs
  have fin : ∀ {T : DSt} {e : Int}, S.le T → structS m = e → FinD E (fun d' S' => d' = .int .i64 (structS m) ∧ S' = S) (.int .i64 e) T := fun {T e} hl h => by rw [h]; exact FinD.less hl FinD.pure
  have g256 : ∀ a : Nat, binI .gtr (.int .i64 (a : Int)) (.int .i64 256) = some (.bool (decide (a > 256))) := fun a => gtN a 256
  have g32768 : ∀ a : Nat, binI .gtr (.int .i64 (a : Int)) (.int .i64 32768) = some (.bool (decide (a > 32768))) := fun a => gtN a 32768
  have g65536 : ∀ a : Nat, binI .gtr (.int .i64 (a : Int)) (.int .i64 65536) = some (.bool (decide (a > 65536))) := fun a => gtN a 65536
  have g32 : ∀ a : Nat, binI .gtr (.int .i64 (a : Int)) (.int .i64 32) = some (.bool (decide (a > 32))) := fun a => gtN a 32
  have g8 : ∀ a : Nat, binI .gtr (.int .i64 (a : Int)) (.int .i64 8) = some (.bool (decide (a > 8))) := fun a => gtN a 8
  simp only [ofP, oD, Nat.zero_add, h0.ld, q0, tysD_len, g256]
  by_cases c0 : m.types.length > 256
  · simp only [decide_eq_true c0, wdB, t1', vdF, oD, pdB, if_true, cdT]
    exact fin hle (by unfold structS; rw [if_pos (.inl c0)])
  simp only [decide_eq_false c0, wdB, t2', vdT, oD, h0.ld, q1, ofP, Nat.zero_add, txsD_len, g32768, pdB, Bool.false_eq_true, if_false]
  by_cases c1 : m.texts.length > 32768
  · simp only [decide_eq_true c1, wdB, t1', vdF, oD, pdB, if_true, cdT]
    exact fin hle (by unfold structS; rw [if_pos (.inr (.inl c1))])
  simp only [decide_eq_false c1, wdB, t2', vdT, oD, h0.ld, q2, ofP, Nat.zero_add, rosD_len, g256, pdB, Bool.false_eq_true, if_false]
  by_cases c2 : m.funcs.length > 256
  · simp only [decide_eq_true c2, cdT]
    exact fin hle (by unfold structS; rw [if_pos (.inr (.inr c2))])
  simp only [decide_eq_false c2, cdF]
  have e0 : structS m = if first0 (tyErr m) m.types ≠ 0 then first0 (tyErr m) m.types else if m.texts.any (fun t => decide (t.length > 65536)) = true then 3 else first0 (roErr m) m.funcs := by
    unfold structS; rw [if_neg (by omega)]
  -- the types
  refine loop_image_structure_0 (I := fun n x1 x24 x25 x26 T => x1 = .ptr k 0 ∧ x24 = tysD m.types ∧ x25 = .int .i64 (m.types.length : Int) ∧ S.le T ∧ Cel T k 3 (moC m) ∧ ∃ i : Nat, x26 = .int .i64 (i : Int) ∧ i + n = m.types.length ∧ first0 (tyErr m) m.types = first0 (tyErr m) (m.types.drop i)) ?_ (n := m.types.length)
    ⟨rfl, rfl, rfl, hle, h0, 0, rfl, by omega, rfl⟩
  rintro n _ _ _ _ T ⟨rfl, rfl, rfl, hT, cT, i, rfl, hi, hfi⟩
  unfold B_image_structure_0
  rw [biLt, oD, cdI]
  refine ⟨fun hlt => ?_, fun hge => ?_⟩
  · have hlt : i < m.types.length := by omega
    obtain ⟨t, ht⟩ : ∃ t, t = m.types[i] := ⟨_, rfl⟩
    have et : m.types[i]? = some t := by rw [List.getElem?_eq_getElem hlt, ht]
    have htm : t ∈ m.types := by rw [ht]; exact List.getElem_mem _
    have htok := hmo.ty t htm
    rw [first0_drop hlt, ← ht] at hfi
    rw [tysD_at et, oD, laTy, oD]
    intro k2 a2 n2
    refine (Cel.new (sz := 5) (c := [(.int .u8 0), (.str []), .nilSlc, (.int .i64 0), (.int .i64 0)])).st (ds := tyR t) (clA _) ⟨rfl, by decide, by decide⟩ fun a2 => ?_
    rw [DSt.set_set, show setManyD [(D.int .u8 0), (.str []), .nilSlc, (.int .i64 0), (.int .i64 0)] 0 (tyR t) = tyR t from rfl]
    have c5 : Cel (T.set k2 ⟨5, [tyR t], a2⟩) k2 5 (tyR t) := Cel.new
    have hT2 : S.le (T.set k2 ⟨5, [tyR t], a2⟩) := DSt.le_set hT (DSt.none_of hT n2)
    have cT2 := cT.set (o := ⟨5, [tyR t], a2⟩) n2
    generalize T.set k2 ⟨5, [tyR t], a2⟩ = T2 at *
    have p1 : (tyR t)[1]? = some (.str t.name) := rfl
    have p2 : (tyR t)[2]? = some (fldsD t.fields) := rfl
    have hend : ∀ b : Bool, longTyS t = b → C_image_structure_37 E w0 false (fun x1 x24 x25 x26 S_1 => ∃ m_1, m_1 < n ∧ x1 = .ptr k 0 ∧ x24 = tysD m.types ∧ x25 = .int .i64 (m.types.length : Int) ∧ S.le S_1 ∧ Cel S_1 k 3 (moC m) ∧ ∃ i : Nat, x26 = .int .i64 (i : Int) ∧ i + m_1 = m.types.length ∧ first0 (tyErr m) m.types = first0 (tyErr m) (m.types.drop i))
        (FinD E fun d' S' => d' = .int .i64 (structS m) ∧ S' = S) (.ptr k 0) (.ptr k2 0) (tysD m.types) (.int .i64 (m.types.length : Int)) (.int .i64 (i : Int)) (.bool b) T2 := fun b hb => by
      refine C_image_structure_37_ok ?_
      unfold P_image_structure_37
      cases b with
      | true =>
        rw [cdT]
        have : tyErr m t = 3 := by unfold tyErr; rw [if_pos hb]
        rw [this, if_neg (by decide)] at hfi
        exact fin hT2 (by rw [e0, hfi, if_pos (by decide)])
      | false =>
        rw [cdF, cT2.all (n := 3) (by decide) rfl, oD, c5.all (n := 5) (by decide) rfl, oD]
        refine (show DFn Try.prog E w0 false f_image_mayType [moD m, .agg (tyR t)] T2 _ from (image_mayType_ok hmo htok).use ?_)
        rw [unN, oD, cdB]
        refine ⟨fun h => ?_, fun h => ?_⟩
        · have h : mayTyS m t = false := by simpa using h
          have : tyErr m t = 130 := by unfold tyErr; rw [if_neg (by rw [hb]; simp), if_neg (by rw [h]; simp)]
          rw [this, if_neg (by decide)] at hfi
          exact fin hT2 (by rw [e0, hfi, if_pos (by decide)])
        · have h : mayTyS m t = true := by simpa using h
          have : tyErr m t = 0 := by unfold tyErr; rw [if_neg (by rw [hb]; simp), if_pos h]
          rw [this, if_pos rfl] at hfi
          rw [biAdd, oD, wrap_i64 (by omega) (by omega)]
          exact ⟨n - 1, by omega, rfl, rfl, rfl, hT2, cT2, i + 1, rfl, by omega, hfi⟩
    simp only [ofP, oD, Nat.zero_add, c5.ld, p2, fldsD_len, g32]
    by_cases d1 : t.fields.length > 32
    · rw [decide_eq_true d1, cdT]
      exact hend true (by unfold longTyS; rw [decide_eq_true d1]; rfl)
    rw [decide_eq_false d1, cdF]
    simp only [p1, lnS, oD, g65536]
    by_cases d2 : t.name.length > 65536
    · rw [decide_eq_true d2, cdT]
      exact hend true (by unfold longTyS; rw [decide_eq_true d2]; simp)
    rw [decide_eq_false d2, cdF]
    have hfl := htok.fields
    refine (HasFld_ok (p := fun f => decide (f.1.length > 65536)) (by omega) fun f hf => decides_of (cs := []) (by kernel_rfl) structure_1_ok).use fun d S' ⟨g1, g2⟩ => ?_
    subst g1 g2
    exact hend _ (by unfold longTyS; rw [decide_eq_false d1, decide_eq_false d2]; rfl)
  have hi : i = m.types.length := by omega
  subst hi
  rw [List.drop_length, first0] at hfi
  rw [hfi, if_neg (by simp)] at e0
  simp only [ofP, oD, cT.ld, q1]
  refine (HasStr_ok (p := fun t => decide (t.length > 65536)) (by omega) fun t ht => decides_of (cs := []) (by kernel_rfl) structure_2_ok).use fun d S' ⟨g1, g2⟩ => ?_
  subst g1 g2
  rw [cdB]
  refine ⟨fun h => fin hT (by rw [e0, if_pos h]), fun h => ?_⟩
  rw [if_neg (by rw [h]; simp)] at e0
  simp only [ofP, oD, cT.ld, q2, rosD_len]
  refine loop_image_structure_1 (I := fun n x1 x52 x53 x54 T => x1 = .ptr k 0 ∧ x52 = rosD m.funcs ∧ x53 = .int .i64 (m.funcs.length : Int) ∧ S.le T ∧ Cel T k 3 (moC m) ∧ ∃ i : Nat, x54 = .int .i64 (i : Int) ∧ i + n = m.funcs.length ∧ first0 (roErr m) m.funcs = first0 (roErr m) (m.funcs.drop i)) ?_ (n := m.funcs.length)
    ⟨rfl, rfl, rfl, hT, cT, 0, rfl, by omega, rfl⟩
  rintro n _ _ _ _ T ⟨rfl, rfl, rfl, hT, cT, i, rfl, hi, hfi⟩
  unfold B_image_structure_1
  rw [biLt, oD, cdI]
  refine ⟨fun hlt => ?_, fun hge => ?_⟩
  · have hlt : i < m.funcs.length := by omega
    obtain ⟨t, ht⟩ : ∃ t, t = m.funcs[i] := ⟨_, rfl⟩
    have et : m.funcs[i]? = some t := by rw [List.getElem?_eq_getElem hlt, ht]
    have htm : t ∈ m.funcs := by rw [ht]; exact List.getElem_mem _
    have htok := hmo.ro t htm
    obtain ⟨b1, b2, b3⟩ := hm.params t htm
    rw [first0_drop hlt, ← ht] at hfi
    rw [rosD_at et, oD, laRo, oD]
    intro k2 a2 n2
    refine (Cel.new (sz := 6) (c := [(.str []), .nilSlc, .nilSlc, (.int .i64 0), (.int .i64 0), .nilSlc])).st (ds := roR t) (clA _) ⟨rfl, by decide, by decide⟩ fun a2 => ?_
    rw [DSt.set_set, show setManyD [(D.str []), .nilSlc, .nilSlc, (.int .i64 0), (.int .i64 0), .nilSlc] 0 (roR t) = roR t from rfl]
    have c6 : Cel (T.set k2 ⟨6, [roR t], a2⟩) k2 6 (roR t) := Cel.new
    have hT2 : S.le (T.set k2 ⟨6, [roR t], a2⟩) := DSt.le_set hT (DSt.none_of hT n2)
    have cT2 := cT.set (o := ⟨6, [roR t], a2⟩) n2
    generalize T.set k2 ⟨6, [roR t], a2⟩ = T2 at *
    have p0 : (roR t)[0]? = some (.str t.name) := rfl
    have p1 : (roR t)[1]? = some (iD t.params) := rfl
    have p2 : (roR t)[2]? = some (iD t.results) := rfl
    have p3 : (roR t)[3]? = some (.int .i64 t.locals) := rfl
    have p4 : (roR t)[4]? = some (.int .i64 t.stack) := rfl
    have p5 : (roR t)[5]? = some (bD t.code) := rfl
    have hend : ∀ b : Bool, longRoS t = b → C_image_structure_97 E w0 false (fun x1 x52 x53 x54 S_1 => ∃ m_1, m_1 < n ∧ x1 = .ptr k 0 ∧ x52 = rosD m.funcs ∧ x53 = .int .i64 (m.funcs.length : Int) ∧ S.le S_1 ∧ Cel S_1 k 3 (moC m) ∧ ∃ i : Nat, x54 = .int .i64 (i : Int) ∧ i + m_1 = m.funcs.length ∧ first0 (roErr m) m.funcs = first0 (roErr m) (m.funcs.drop i))
        (FinD E fun d' S' => d' = .int .i64 (structS m) ∧ S' = S) (.ptr k 0) (.ptr k2 0) (rosD m.funcs) (.int .i64 (m.funcs.length : Int)) (.int .i64 (i : Int)) (.bool b) T2 := fun b hb => by
      refine C_image_structure_97_ok ?_
      unfold P_image_structure_97
      cases b with
      | true =>
        rw [cdT]
        have : roErr m t = 3 := by unfold roErr; rw [if_pos hb]
        rw [this, if_neg (by decide)] at hfi
        exact fin hT2 (by rw [e0, hfi])
      | false =>
        rw [cdF, cT2.all (n := 3) (by decide) rfl, oD, c6.all (n := 6) (by decide) rfl, oD]
        refine (show DFn Try.prog E w0 false f_image_mayFunc [moD m, .agg (roR t)] T2 _ from (image_mayFunc_ok hm htok b3).use ?_)
        rw [unN, oD, cdB]
        refine ⟨fun h => ?_, fun h => ?_⟩
        · have h : mayRoS m t = false := by simpa using h
          have : roErr m t = 130 := by unfold roErr; rw [if_neg (by rw [hb]; simp), if_neg (by rw [h]; simp)]
          rw [this, if_neg (by decide)] at hfi
          exact fin hT2 (by rw [e0, hfi])
        · have h : mayRoS m t = true := by simpa using h
          have : roErr m t = 0 := by unfold roErr; rw [if_neg (by rw [hb]; simp), if_pos h]
          rw [this, if_pos rfl] at hfi
          rw [biAdd, oD, wrap_i64 (by omega) (by omega)]
          exact ⟨n - 1, by omega, rfl, rfl, rfl, hT2, cT2, i + 1, rfl, by omega, hfi⟩
    simp only [ofP, oD, Nat.zero_add, c6.ld, p1, iD_len, g32]
    by_cases d1 : t.params.length > 32
    · rw [decide_eq_true d1, cdT]
      exact hend true (by unfold longRoS; rw [decide_eq_true d1]; simp)
    rw [decide_eq_false d1, cdF]
    simp only [p2, iD_len, oD, g8]
    by_cases d2 : t.results.length > 8
    · rw [decide_eq_true d2, cdT]
      exact hend true (by unfold longRoS; rw [decide_eq_true d2]; simp)
    rw [decide_eq_false d2, cdF]
    simp only [p3, oD, biGt]
    by_cases d3 : t.locals > 256
    · rw [decide_eq_true d3, cdT]
      exact hend true (by unfold longRoS; rw [decide_eq_true d3]; simp)
    rw [decide_eq_false d3, cdF]
    simp only [p4, oD, biGt]
    by_cases d4 : t.stack > 4096
    · rw [decide_eq_true d4, cdT]
      exact hend true (by unfold longRoS; rw [decide_eq_true d4]; simp)
    rw [decide_eq_false d4, cdF]
    simp only [p5, bD_len, oD, g65536]
    by_cases d5 : t.code.length > 65536
    · rw [decide_eq_true d5, cdT]
      exact hend true (by unfold longRoS; rw [decide_eq_true d5]; simp)
    rw [decide_eq_false d5, cdF]
    simp only [p0, lnS, oD, g65536]
    exact hend _ (by unfold longRoS; rw [decide_eq_false d1, decide_eq_false d2, decide_eq_false d3, decide_eq_false d4, decide_eq_false d5]; rfl)
  · have hi : i = m.funcs.length := by omega
    subst hi
    rw [List.drop_length, first0] at hfi
    exact fin hT (by rw [e0, hfi])
end
end Go.Proofs.Ytchnpgddpaonhaa.d
end
