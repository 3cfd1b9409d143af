/-
  Texts Fe Ff Fg Vd Cp Cu Cy, as far as they are used.
-/
import Derived.Test.YtcboaonbfgjmgaaRaz
import Derived.Test.YtcboaonbfgjmgaaRaw
import Derived.Test.YtcboaonbfgjmgaaRows
import Derived.Test.YtcboaonbfgjmgaaRau
import Derived.KernelRfl
section
open Go.Proofs Go Go.Am Go.Op
namespace Go.Proofs.Ytcboaonbfgjmgaa.d
set_option linter.unusedVariables false
set_option linter.unusedSimpArgs false
set_option maxRecDepth 100000
def rrC (bs : List Int) (p e : Int) : List D := [bD bs, .int .i64 p, .int .i64 e]
/-- The reference's reader: it tells the place while nothing is wrong. -/
def RrAt (S : DSt) (k : Nat) (bs : List Int) (s : Nat × Int) : Prop := ∃ p : Int, Cel S k 3 (rrC bs p s.2) ∧ (s.2 = 0 → p = s.1)
section
variable {E : Env} {w0 : World} {x : Bool}
theorem ref12_number_ok {bs : List Int} (hb : ∀ b ∈ bs, Byte b) (hl : bs.length < 2 ^ 30) {s : Nat × Int} (hs : s.1 ≤ bs.length) {f : Fld} (hf : goodF f) {S : DSt} {k : Nat} (hk : RrAt S k bs s) :
    DFn Try.prog E w0 x f_ref12_reader_number [.ptr k 0, .agg (parR f)] S fun v S' => v = .int .i64 (rdS bs f s).1 ∧ RrAt S' k bs (rdS bs f s).2 ∧ ∀ j, j ≠ k → S' j = S j := by
  obtain ⟨p, hc, hp⟩ := hk
  have h1 := hf.1
  have h8 := goodF_size hf
  refine V_ref12_reader_number_ok ?_
  unfold V_ref12_reader_number
  rw [clA, oD]
  intro k0 a0 n0
  have d : k ≠ k0 := hc.none n0
  generalize hS1 : S.set k0 _ = S1
  have bk : Cel S1 k 3 (rrC bs p s.2) := by rw [← hS1]; exact hc.set n0
  have b0 : Cel S1 k0 4 (parR f) := by rw [← hS1]; exact Cel.new
  have e1 : ∀ j, j ≠ k0 → S1 j = S j := fun j hj => by rw [← hS1]; exact DSt.set_ne _ _ _ hj
  -- the ends
  have fin : ∀ {S2 : DSt} {v : Int} {s' : Nat × Int} {p' : Int}, Cel S2 k 3 (rrC bs p' s'.2) → (s'.2 = 0 → p' = s'.1) → (∀ j, j ≠ k → S2 j = S1 j) → rdS bs f s = (v, s') → FinD E (fun v S' => v = .int .i64 (rdS bs f s).1 ∧ RrAt S' k bs (rdS bs f s).2 ∧ ∀ j, j ≠ k → S' j = S j) (.int .i64 v) S2 := fun {S2 v s' p'} g1 g2 g3 g4 => by
    refine FinD.less (S' := S2.erase k0) (DSt.erase_le _ _) (FinD.here ?_)
    rw [g4]
    refine ⟨rfl, ⟨p', g1.of (DSt.erase_ne _ _ d), g2⟩, fun j hj => ?_⟩
    by_cases h : j = k0
    · subst h; rw [DSt.erase_same, n0]
    · rw [DSt.erase_ne _ _ h, g3 j hj, e1 j h]
  simp only [ndP, ofP, oD, Nat.zero_add, bk.ld, show (rrC bs p s.2)[2]? = some (.int .i64 s.2) from rfl, show (rrC bs p s.2)[1]? = some (.int .i64 p) from rfl, show (rrC bs p s.2)[0]? = some (bD bs) from rfl, b0.ld, show (parR f)[0]? = some (.int .i64 (f.size : Int)) from rfl, biNe, bD_len]
  rw [bneD, cdI]
  refine ⟨fun he => fin bk hp (fun _ _ => rfl) (by rw [rdS_err he]), fun he => ?_⟩
  have he : s.2 = 0 := Classical.not_not.1 he
  have hp := hp he
  subst hp
  refine ⟨by trivial, by trivial, by trivial, by trivial, ?_⟩
  rw [biSub, oD, wrap_i64 (by omega) (by omega), biGt, oD, cdI]
  refine ⟨fun hsh => ?_, fun hsh => ?_⟩
  · have hsh : bs.length < s.1 + f.size := by omega
    refine bk.st (clI _ _) ⟨rfl, by decide, by simp [rrC]⟩ fun a' => ?_
    exact fin (s' := (s.1, 10)) (p' := (s.1 : Int)) Cel.new (fun h => by cases h) (fun j hj => DSt.set_ne _ _ _ hj) (by unfold rdS; rw [if_neg (by simp [he]), if_pos hsh])
  have hsh : ¬ bs.length < s.1 + f.size := by omega
  obtain ⟨u, hu⟩ : ∃ u, u = leN ((bs.drop s.1).take f.size) := ⟨_, rfl⟩
  have hur : rdS bs f s = match rdN f u with | some n => (n, s.1 + f.size, 0) | none => (0, s.1, 120) := by
    unfold rdS; rw [if_neg (by simp [he]), if_neg hsh, ← hu]
    cases rdN f u <;> rfl
  have hult : u < 2 ^ (8 * f.size) := by
    rw [hu]
    have hbs : ∀ b ∈ (bs.drop s.1).take f.size, Byte b := fun b hb' => hb b (List.mem_of_mem_drop (List.mem_of_mem_take hb'))
    have := leN_lt hbs
    rwa [show ((bs.drop s.1).take f.size).length = f.size by rw [List.length_take, List.length_drop]; omega] at this
  have h64 : 2 ^ (8 * f.size) ≤ 2 ^ 64 := Nat.pow_le_pow_right (by decide) (by omega)
  refine loop_ref12_reader_number_0 (I := fun n x0 x3 x5 x6 T => x0 = .ptr k 0 ∧ x3 = .ptr k0 0 ∧ S1 = T ∧ ∃ i : Nat, x6 = .int .i64 (i : Int) ∧ i + n = f.size ∧ x5 = .int .u64 ((leN ((bs.drop s.1).take i) : Nat) : Int)) ?_ (n := f.size) ⟨rfl, rfl, rfl, 0, rfl, by omega, rfl⟩
  rintro n _ _ _ _ _ ⟨rfl, rfl, rfl, i, rfl, hi, rfl⟩
  unfold B_ref12_reader_number_0
  simp only [ndP, ofP, oD, Nat.zero_add, bk.ld, show (rrC bs s.1 s.2)[2]? = some (.int .i64 s.2) from rfl, show (rrC bs s.1 s.2)[1]? = some (.int .i64 (s.1 : Int)) from rfl, show (rrC bs s.1 s.2)[0]? = some (bD bs) from rfl, b0.ld, show (parR f)[0]? = some (.int .i64 (f.size : Int)) from rfl, biLt]
  rw [cdI]
  refine ⟨fun hlt => ?_, fun hge => ?_⟩
  · have hlt2 : s.1 + i < bs.length := by omega
    obtain ⟨y, hy⟩ : ∃ y, y = bs[s.1 + i] := ⟨_, rfl⟩
    have hj : bs[s.1 + i]? = some y := by rw [List.getElem?_eq_getElem hlt2, hy]
    obtain ⟨y0, y1⟩ := hb y (by rw [hy]; exact List.getElem_mem _)
    obtain ⟨xn, hxn⟩ : ∃ xn : Nat, y = (xn : Int) := ⟨y.toNat, by omega⟩
    have hbs : ∀ b ∈ (bs.drop s.1).take i, Byte b := fun b hb' => hb b (List.mem_of_mem_drop (List.mem_of_mem_take hb'))
    have hlen : ((bs.drop s.1).take i).length = i := by rw [List.length_take, List.length_drop]; omega
    have e3 := leN_lt hbs
    rw [hlen] at e3
    have htk : (bs.drop s.1).take (i + 1) = (bs.drop s.1).take i ++ [y] := by
      rw [List.take_add_one, List.getElem?_drop, hj]; rfl
    have hsn := leN_snoc ((bs.drop s.1).take i) y
    rw [← htk, hlen] at hsn
    have e4 := leN_lt (l := (bs.drop s.1).take (i + 1)) fun b hb' => hb b (List.mem_of_mem_drop (List.mem_of_mem_take hb'))
    rw [show ((bs.drop s.1).take (i + 1)).length = i + 1 by rw [List.length_take, List.length_drop]; omega] at e4
    have h3 : 2 ^ (8 * (i + 1)) ≤ 2 ^ 64 := Nat.pow_le_pow_right (by decide) (by omega)
    have h4 : 2 ^ (8 * i) ≤ 2 ^ 64 := Nat.pow_le_pow_right (by decide) (by omega)
    have hxt : y.toNat = xn := by omega
    rw [hxt] at hsn
    refine ⟨by trivial, by trivial, ?_⟩
    rw [biAdd, oD, wrap_i64 (by omega) (by omega), show (s.1 : Int) + (i : Int) = ((s.1 + i : Nat) : Int) by omega, bD_at hj, oD, lsE, List.getElem?_cons_zero, oD]
    refine ⟨by trivial, ?_⟩
    rw [cvI, oD, hxn, u64_nat (by omega), biMul, oD, wrap_i64 (by omega) (by omega),
      show 8 * (i : Int) = ((8 * i : Nat) : Int) by omega, shl_nat (by omega) (by omega), oD, or_nat (by omega) (by omega), oD, or_add e3, biAdd, oD, wrap_i64 (by omega) (by omega)]
    exact ⟨n - 1, by omega, by trivial, by trivial, by trivial, i + 1, rfl, by omega, by rw [hsn]⟩
  · have hi : i = f.size := by omega
    subst hi
    rw [← hu]
    refine ⟨by trivial, by trivial, ?_⟩
    rw [biAdd, oD, wrap_i64 (by omega) (by omega)]
    refine bk.st (clI _ _) ⟨rfl, by decide, by simp [rrC]⟩ fun a' => ⟨by trivial, ?_⟩
    rw [show setManyD (rrC bs (s.1 : Int) s.2) 1 [.int .i64 ((s.1 : Int) + (f.size : Int))] = rrC bs ((s.1 : Int) + (f.size : Int)) s.2 from rfl]
    have c2 : Cel (S1.set k ⟨3, [rrC bs ((s.1 : Int) + (f.size : Int)) s.2], a'⟩) k 3 (rrC bs ((s.1 : Int) + (f.size : Int)) s.2) := Cel.new
    have f0 := b0.set_ne (o := ⟨3, [rrC bs ((s.1 : Int) + (f.size : Int)) s.2], a'⟩) (Ne.symm d)
    have e2 : ∀ j, j ≠ k → (S1.set k ⟨3, [rrC bs ((s.1 : Int) + (f.size : Int)) s.2], a'⟩) j = S1 j := fun j hj => DSt.set_ne _ _ _ hj
    generalize (S1.set k ⟨3, [rrC bs ((s.1 : Int) + (f.size : Int)) s.2], a'⟩) = S2 at *
    have tail : ∀ w : Int, w = upR f u → C_ref12_reader_number_28 E w0 x (FinD E fun v S' => v = .int .i64 (rdS bs f s).1 ∧ RrAt S' k bs (rdS bs f s).2 ∧ ∀ j, j ≠ k → S' j = S j) (.ptr k 0) (.ptr k0 0) (.int .u64 w) S2 := fun w hw => by
      refine C_ref12_reader_number_28_ok ?_
      unfold P_ref12_reader_number_28
      rw [f0.all (n := 4) (by decide) rfl, oD, cvI, oD]
      refine ref12_within_ok.use ?_
      rw [unN, oD, cdB]
      have hrd := rdN_up hf hult
      rw [← hw] at hrd
      refine ⟨fun hm => ?_, fun hm => ?_⟩
      · have hm : f.may (IntKind.i64.wrap w) = false := by simpa using hm
        rw [hm, if_neg (by decide)] at hrd
        rw [hrd] at hur
        simp only [ndP, ofP, oD, Nat.zero_add]
        refine c2.st (clI _ _) ⟨rfl, by decide, by simp [rrC]⟩ fun a2 => ?_
        exact fin (s' := (s.1, 120)) (p' := (s.1 : Int) + (f.size : Int)) Cel.new (fun h => by cases h) (fun j hj => by rw [DSt.set_ne _ _ _ hj, e2 j hj]) hur
      · have hm : f.may (IntKind.i64.wrap w) = true := by simpa using hm
        rw [if_pos hm] at hrd
        rw [hrd] at hur
        rw [oD]
        exact fin (s' := (s.1 + f.size, 0)) (p' := (s.1 : Int) + (f.size : Int)) (by rw [← he]; exact c2) (fun _ => by simp) e2 hur
    have q3 : (parR f)[3]? = some (.bool (decide (f.lo < 0))) := rfl
    have q0 : (parR f)[0]? = some (.int .i64 (f.size : Int)) := rfl
    simp only [f0.ld, q3, q0, oD]
    have hup : ∀ c : Prop, [Decidable c] → (c ↔ (f.lo < 0 ∧ f.size < 8 ∧ u / 2 ^ (8 * f.size - 1) = 1)) → upR f u = if c then IntKind.u64.wrap ((u : Int) - 2 ^ (8 * f.size)) else u := fun c _ h => by
      unfold upR; simp only [h]
    by_cases c0 : f.lo < 0
    · by_cases c8 : f.size < 8
      · have e8 : decide ((f.size : Int) < 8) = true := decide_eq_true (by omega)
        have h56 := pow8 c8
        simp only [decide_eq_true c0, wdB, vdT, oD, pdB, if_true, ofP, Nat.zero_add, f0.ld, q0, biLt, e8, biMul, biSub, show ((true == true) = true) from rfl]
        rw [wrap_i64 (n := 8 * (f.size : Int)) (by omega) (by omega), wrap_i64 (by omega) (by omega), show (8 * (f.size : Int) - 1) = ((8 * f.size - 1 : Nat) : Int) by omega, shr_nat (by omega), oD, biEq, oD]
        rw [cdB]
        refine ⟨fun hq => ?_, fun hq => ?_⟩
        · have hq : u / 2 ^ (8 * f.size - 1) = 1 := by have : ((u / 2 ^ (8 * f.size - 1) : Nat) : Int) = 1 := by simpa using hq
                                                       omega
          rw [show 8 * (f.size : Int) = ((8 * f.size : Nat) : Int) by omega]
          have e1' : binI .shl (.int .u64 1) (.int .i64 ((8 * f.size : Nat) : Int)) = some (.int .u64 ((2 ^ (8 * f.size) : Nat) : Int)) := by
            have := shl_nat (a := 1) (i := 8 * f.size) (by omega) (by omega)
            rw [Nat.one_mul] at this
            exact this
          rw [e1', oD, biSub, oD]
          refine tail _ ?_
          rw [hup True ⟨fun _ => ⟨c0, c8, hq⟩, fun _ => trivial⟩, if_pos trivial]
          congr 1
        · have hq : ¬ u / 2 ^ (8 * f.size - 1) = 1 := by have : ¬ ((u / 2 ^ (8 * f.size - 1) : Nat) : Int) = 1 := by simpa using hq
                                                         omega
          refine tail _ ?_
          rw [hup False ⟨fun h => h.elim, fun h => hq h.2.2⟩, if_neg id]
      · have e8 : decide ((f.size : Int) < 8) = false := decide_eq_false (by omega)
        simp only [decide_eq_true c0, wdB, vdT, vdF, oD, pdB, if_true, ofP, Nat.zero_add, f0.ld, q0, biLt, e8, Bool.false_eq_true, if_false, show ((true == true) = true) from rfl, show ((false == true) = false) from rfl, cdF]
        refine tail _ ?_
        rw [hup False ⟨fun h => h.elim, fun h => c8 h.2.1⟩, if_neg id]
    · simp only [decide_eq_false c0, wdB, vdF, oD, pdB, Bool.false_eq_true, if_false, show ((false == true) = false) from rfl, cdF]
      refine tail _ ?_
      rw [hup False ⟨fun h => h.elim, fun h => c0 h.1⟩, if_neg id]
end
end Go.Proofs.Ytcboaonbfgjmgaa.d
end

section
open Go.Proofs Go Go.Am Go.Op
namespace Go.Proofs.Ytcboaonbfgjmgaa.d
set_option linter.unusedVariables false
set_option linter.unusedSimpArgs false
set_option maxRecDepth 100000
theorem RrAt.of {S T : DSt} {k : Nat} {bs : List Int} {s : Nat × Int} (h : RrAt S k bs s) (e : T k = S k) : RrAt T k bs s := by
  obtain ⟨p, c, hp⟩ := h; exact ⟨p, c.of e, hp⟩
theorem RrAt.set {S : DSt} {k l : Nat} {bs : List Int} {s : Nat × Int} {o : DObj} (h : RrAt S k bs s) (hn : S l = none) : RrAt (S.set l o) k bs s := by
  obtain ⟨p, c, hp⟩ := h; exact ⟨p, c.set hn, hp⟩
theorem RrAt.ne {S : DSt} {k l sz : Nat} {bs : List Int} {s : Nat × Int} {c : List D} (h : RrAt S k bs s) (h' : Cel S l sz c) (hs : sz ≠ 3) : l ≠ k := by
  obtain ⟨p, c, hp⟩ := h; exact h'.ne c hs
theorem RrAt.some {S : DSt} {k : Nat} {bs : List Int} {s : Nat × Int} (h : RrAt S k bs s) : S k ≠ none := by
  obtain ⟨p, c, hp⟩ := h; exact c.there
theorem ix_range (bs : List Int) (s : Nat × Int) : 0 ≤ (rdS bs fIx s).1 ∧ (rdS bs fIx s).1 ≤ 65535 := by
  rcases rdS_may bs fIx s with h | h
  · omega
  · exact of_decide_eq_true h
/-- The field of a switch's values. -/
theorem par_v (w : Int) : (if 0 < bitsS w ∧ bitsS w < 64 then [D.int .i64 8, .int .i64 (-(2 ^ (bitsS w - 1).toNat)), .int .i64 (2 ^ (bitsS w - 1).toNat - 1), .bool true] else [D.int .i64 8, .int .i64 (-9223372036854775808), .int .i64 9223372036854775807, .bool true]) = if 0 < bitsS w then parR (Op.vF w) else [D.int .i64 8, .int .i64 (-9223372036854775808), .int .i64 9223372036854775807, .bool true] := by
  unfold bitsS parR Op.vF fitLo fitHi
  by_cases h1 : w = 1
  · subst h1; rfl
  by_cases h2 : w = 2
  · subst h2; rfl
  by_cases h3 : w = 3
  · subst h3; rfl
  · simp [h1, h2, h3]
section
variable {E : Env} {w0 : World} {x : Bool}
/-- The arms, read; (of a width that may be). -/
theorem ref12_arms_ok {bs : List Int} (hb : ∀ b ∈ bs, Byte b) (hl : bs.length < 2 ^ 30) {s : Nat × Int} (hs : s.1 ≤ bs.length) {a : Int} (ha : s.2 = 0 → 0 < bitsS (IntKind.u8.wrap a)) {S : DSt} {k : Nat} (hk : RrAt S k bs s) :
    DFn Try.prog E w0 x f_ref12_reader_arms [.ptr k 0, .int .i64 a] S fun v S' => ∃ av, v = armD (rdArms bs (IntKind.u8.wrap a) (rdS bs fIx s).1.toNat (rdS bs fIx s).2 []).1 ∧ RrAt S' k bs (rdArms bs (IntKind.u8.wrap a) (rdS bs fIx s).1.toNat (rdS bs fIx s).2 []).2 ∧ (∀ j, j ≠ k → S j ≠ none → S' j = S j) ∧ av = S' k := by
  refine V_ref12_reader_arms_ok ?_
  unfold V_ref12_reader_arms
  refine ref12_place_ok.use ((ref12_number_ok hb hl hs goodF_ix hk).use ?_)
  rintro v S1 ⟨rfl, r1, e1⟩
  have hs1 := rdS_le (f := fIx) hs
  obtain ⟨hn0, hn1⟩ := ix_range bs s
  obtain ⟨N, hN⟩ : ∃ N : Nat, (rdS bs fIx s).1 = (N : Int) := ⟨(rdS bs fIx s).1.toNat, by omega⟩
  have hNt : (rdS bs fIx s).1.toNat = N := by omega
  rw [hNt, hN]
  obtain ⟨w, hw⟩ : ∃ w, w = IntKind.u8.wrap a := ⟨_, rfl⟩
  rw [cvI, oD, ← hw]
  refine ref02_Bits_ok.use ?_
  rw [show aggD (fillD [(D.int .i64 0), (.int .i64 0), (.int .i64 0), (.bool false)] [(0, 1, (.int .i64 8)), (1, 1, (.int .i64 (-9223372036854775808))), (2, 1, (.int .i64 9223372036854775807)), (3, 1, (.bool true))]) = some (.agg [D.int .i64 8, .int .i64 (-9223372036854775808), .int .i64 9223372036854775807, .bool true]) from rfl, oD]
  intro k8 a8 n8
  refine (Cel.new (sz := 4) (c := [(D.int .i64 0), (.int .i64 0), (.int .i64 0), (.bool false)])).st (clA _) ⟨rfl, by decide, by decide⟩ fun a8 => ?_
  rw [DSt.set_set, show setManyD [(D.int .i64 0), (.int .i64 0), (.int .i64 0), (.bool false)] 0 [D.int .i64 8, .int .i64 (-9223372036854775808), .int .i64 9223372036854775807, .bool true] = [D.int .i64 8, .int .i64 (-9223372036854775808), .int .i64 9223372036854775807, .bool true] from rfl]
  -- behind the field
  have go : ∀ {c8 : List D} {a8 : List AV}, c8 = (if 0 < bitsS w ∧ bitsS w < 64 then [D.int .i64 8, .int .i64 (-(2 ^ (bitsS w - 1).toNat)), .int .i64 (2 ^ (bitsS w - 1).toNat - 1), .bool true] else [D.int .i64 8, .int .i64 (-9223372036854775808), .int .i64 9223372036854775807, .bool true]) →
      C_ref12_reader_arms_14 E w0 x (FinD E fun v S' => ∃ av, v = armD (rdArms bs w N (rdS bs fIx s).2 []).1 ∧ RrAt S' k bs (rdArms bs w N (rdS bs fIx s).2 []).2 ∧ (∀ j, j ≠ k → S j ≠ none → S' j = S j) ∧ av = S' k) (.ptr k 0) (.int .i64 (N : Int)) (.ptr k8 0) (S1.set k8 ⟨4, [c8], a8⟩) := fun {c8 a8} hc8 => by
    refine C_ref12_reader_arms_14_ok ?_
    unfold P_ref12_reader_arms_14
    have r2 : RrAt (S1.set k8 ⟨4, [c8], a8⟩) k bs (rdS bs fIx s).2 := r1.set n8
    have h8 : Cel (S1.set k8 ⟨4, [c8], a8⟩) k8 4 c8 := Cel.new
    have ek : ∀ j, j ≠ k → S j ≠ none → (S1.set k8 ⟨4, [c8], a8⟩) j = S j := fun j hj hn => by
      rw [DSt.set_ne _ _ _ (fun e => hn (by rw [← e1 j hj, e]; exact n8)), e1 j hj]
    have hc : (rdS bs fIx s).2.2 = 0 → c8 = parR (Op.vF w) := fun h => by
      have := ha (rdS_stick h)
      rw [hc8, par_v, if_pos (by rw [hw]; exact this)]
    have d8 : k8 ≠ k := r2.ne h8 (by decide)
    generalize hS2 : S1.set k8 ⟨4, [c8], a8⟩ = S2 at *
    have hle0 : (S.erase k).le S2 := fun j o e => by
      unfold DSt.erase at e
      split at e
      · cases e
      · rename_i hj; rw [ek j hj (by rw [e]; simp)]; exact e
    refine loop_ref12_reader_arms_0 (I := fun n x0 x5 x7 x8 x9 T => x0 = .ptr k 0 ∧ x5 = .int .i64 (N : Int) ∧ x7 = .ptr k8 0 ∧ ∃ (i : Nat) (acc : List (Int × Int)) (s' : Nat × Int), x9 = .int .i64 (i : Int) ∧ i + n = N ∧ acc.length = i ∧ s'.1 ≤ bs.length ∧ RrAt T k bs s' ∧ Cel T k8 4 c8 ∧ (s'.2 = 0 → c8 = parR (Op.vF w)) ∧ (∀ j, j ≠ k → S j ≠ none → T j = S j) ∧
        GrA S [k, k8] x8 (acc.map armR) 2 T ∧ (S.erase k).le T ∧ rdArms bs w n s' acc = rdArms bs w N (rdS bs fIx s).2 []) ?_ (n := N)
      ⟨rfl, rfl, rfl, 0, [], _, rfl, by omega, rfl, hs1, r2, h8, hc, ek, GrA.nil, hle0, rfl⟩
    rintro n _ _ _ x8 _ T ⟨rfl, rfl, rfl, i, acc, s', rfl, hi, hacc, hs', hr, h8', hc', ek', hg, hle, hrd⟩
    unfold B_ref12_reader_arms_0
    obtain ⟨p', cp', hp'⟩ := hr
    have ld2 : loadSc T (.ptr k 2) = some (.int .i64 s'.2) := cp'.ld 2
    have fin : (n = 0 ∨ s'.2 ≠ 0) → FinD E (fun v S' => ∃ av, v = armD (rdArms bs w N (rdS bs fIx s).2 []).1 ∧ RrAt S' k bs (rdArms bs w N (rdS bs fIx s).2 []).2 ∧ (∀ j, j ≠ k → S j ≠ none → S' j = S j) ∧ av = S' k) x8 T := fun hend => by
      have hrd' : rdArms bs w N (rdS bs fIx s).2 [] = (acc, s') := by
        rw [← hrd]
        rcases hend with rfl | h
        · rfl
        · exact rdArms_err h
      rw [hrd']
      rcases hg with ⟨rfl, he⟩ | ⟨kA, acs, h0, h1, rfl, h3⟩
      · have : acc = [] := by simpa using he
        subst this
        exact FinD.nil (sz := 2) (FinD.here ⟨_, rfl, ⟨p', cp', hp'⟩, ek', rfl⟩)
      · refine FinD.freeze h3 rfl (by simp) (Nat.le_refl _) (FinD.here ⟨_, by rw [List.drop_zero, List.take_length]; rfl, ⟨p', cp'.of (DSt.erase_ne _ _ fun e => h1 (by simp [e])), hp'⟩, fun j hj hn => ?_, rfl⟩)
        rw [DSt.erase_ne _ _ (fun e => hn (by rw [e]; exact h0))]
        exact ek' j hj hn
    simp only [biLt, oD, ndP, ofP, Nat.zero_add, ld2, biEq]
    by_cases h0 : n = 0
    · have hd : decide ((i : Int) < (N : Int)) = false := decide_eq_false (by omega)
      simp only [hd, wdB, vdF, oD, pdB, Bool.false_eq_true, if_false, cdF, show ((false == true) = false) from rfl]
      exact fin (.inl h0)
    have hd : decide ((i : Int) < (N : Int)) = true := decide_eq_true (by omega)
    simp only [hd, wdB, vdT, oD, pdB, if_true, show ((true == true) = true) from rfl, ndP, ofP, Nat.zero_add, ld2, biEq]
    rw [cdB]
    refine ⟨fun he => ?_, fun he => fin (.inr (by simpa using he))⟩
    have he : s'.2 = 0 := by simpa using he
    have hcc := hc' he
    subst hcc
    rw [h8'.all (n := 4) (by decide) rfl, oD]
    refine (ref12_number_ok hb hl hs' (goodF_v w) ⟨p', cp', hp'⟩).use ?_
    rintro v T2 ⟨rfl, r3, e3⟩
    have hs3 := rdS_le (f := Op.vF w) hs'
    refine ref12_leap_ok.use ((ref12_number_ok hb hl hs3 goodF_leap r3).use ?_)
    rintro v T3 ⟨rfl, r4, e4⟩
    have hs4 := rdS_le (f := fLeap) hs3
    rw [show aggD (fillD [D.int .i64 0, .int .i64 0] [(0, 1, .int .i64 (rdS bs (Op.vF w) s').1), (1, 1, .int .i64 (rdS bs fLeap (rdS bs (Op.vF w) s').2).1)]) = some (.agg (armR ((rdS bs (Op.vF w) s').1, (rdS bs fLeap (rdS bs (Op.vF w) s').2).1))) from rfl, oD]
    refine lit_lst (rows := [armR _]) rfl ?_
    have e34 : ∀ j, j ≠ k → T3 j = T j := fun j hj => by rw [e4 j hj, e3 j hj]
    have h8'' := h8'.of (e34 _ d8)
    have hg3 : GrA S [k, k8] x8 (acc.map armR) 2 T3 := hg.of fun j o hj e => by rw [e34 j (fun e => hj (by simp [e]))]; exact e
    have hle3 : (S.erase k).le T3 := fun j o e => by
      have hj : j ≠ k := fun e' => by rw [e', DSt.erase_same] at e; cases e
      rw [e34 j hj]; exact hle _ _ e
    have hg4 : GrA (S.erase k) [k, k8] x8 (acc.map armR) 2 T3 := by
      rcases hg3 with h | ⟨kA, acs, q0, q1, q2, q3⟩
      · exact .inl h
      · exact .inr ⟨kA, acs, (by unfold DSt.erase; split; rfl; exact q0), q1, q2, q3⟩
    refine hg4.push hle3 (fun j hj => ?_) (news := [armR ((rdS bs (Op.vF w) s').1, (rdS bs fLeap (rdS bs (Op.vF w) s').2).1)]) (by simp [rowsS, rowsOf]) (by simp) (by simp; omega) fun t' T4 hle4 he4 hg5 => ?_
    · simp only [List.mem_cons, List.not_mem_nil, or_false] at hj
      rcases hj with rfl | rfl
      · exact r4.some
      · exact h8''.there
    rw [biAdd, oD, wrap_i64 (by omega) (by omega)]
    obtain ⟨m, rfl⟩ : ∃ m, n = m + 1 := ⟨n - 1, by omega⟩
    rw [rdArms, if_neg (by simp [he])] at hrd
    refine ⟨m, by omega, by trivial, by trivial, by trivial, i + 1, acc ++ [_], _, rfl, by omega, by simp [hacc], hs4, r4.of (he4 _ (by simp)), h8''.of (he4 _ (by simp)), fun _ => rfl, fun j hj hn => ?_, ?_, hle4, hrd⟩
    · by_cases h8e : j = k8
      · subst h8e; rw [he4 _ (by simp), e34 _ hj]; exact ek' j hj hn
      · obtain ⟨o, ho⟩ := Option.ne_none_iff_exists'.1 hn
        rw [ho]
        exact hle4 _ _ (by rw [DSt.erase_ne _ _ hj]; exact ho)
    · rw [List.map_append]
      rcases hg5 with h | ⟨kA, acs, q0, q1, q2, q3⟩
      · exact .inl h
      · refine .inr ⟨kA, acs, ?_, q1, q2, q3⟩
        rw [DSt.erase_ne _ _ (fun e => q1 (by simp [e]))] at q0
        exact q0
  obtain ⟨b, hbb, hb4⟩ := bits_nat w
  simp only [biGt, oD]
  by_cases c0 : 0 < bitsS w
  · simp only [decide_eq_true c0, wdB, vdT, oD, pdB, if_true, biLt, show ((true == true) = true) from rfl]
    rw [cdI]
    refine ⟨fun c1 => ?_, fun c1 => go (by rw [if_neg (fun h => c1 h.2)])⟩
    have hb32 : b = 8 ∨ b = 32 := by omega
    have hbt : (bitsS w - 1).toNat = b - 1 := by omega
    rw [biSub, oD, wrap_i64 (by omega) (by omega), biShl _ _ _ _ (by omega), oD]
    have hmin : min (bitsS w - 1).toNat IntKind.i64.bits = b - 1 := by
      have : IntKind.i64.bits = 64 := rfl
      omega
    rw [hmin]
    have hpw : (1 : Nat) ≤ 2 ^ (b - 1) ∧ 2 ^ (b - 1) ≤ 2 ^ 31 := ⟨Nat.one_le_two_pow, Nat.pow_le_pow_right (by decide) (by omega)⟩
    have hc : (2 : Int) ^ (b - 1) = ((2 ^ (b - 1) : Nat) : Int) := by exact_mod_cast rfl
    rw [hc, wrap_i64 (by omega) (by omega), ofP, oD]
    refine (Cel.new (sz := 4)).st (clI _ _) ⟨rfl, by decide, by decide⟩ fun a9 => ?_
    rw [DSt.set_set, oD, biShl _ _ _ _ (by omega), oD, hmin, hc, wrap_i64 (by omega) (by omega), biSub, oD, wrap_i64 (by omega) (by omega), ofP, oD]
    refine (Cel.new (sz := 4)).st (clI _ _) ⟨rfl, by decide, by simp [setManyD]⟩ fun a10 => ?_
    rw [DSt.set_set]
    refine go ?_
    rw [if_pos ⟨c0, c1⟩, hbt, hc]
    simp [setManyD]
  · simp only [decide_eq_false c0, wdB, vdF, oD, pdB, Bool.false_eq_true, if_false, show ((false == true) = false) from rfl, cdF]
    exact go (by rw [if_neg (fun h => c0 h.1)])
end
end Go.Proofs.Ytcboaonbfgjmgaa.d
end

section
open Go.Proofs Go Go.Am Go.Op
namespace Go.Proofs.Ytcboaonbfgjmgaa.d
set_option linter.unusedVariables false
set_option linter.unusedSimpArgs false
set_option maxRecDepth 100000
theorem bits_of_may {a : Int} (h : fWid.may a = true) : 0 < bitsS (IntKind.u8.wrap a) := by
  have h := of_decide_eq_true h
  have h1 : 1 ≤ a ∧ a ≤ 3 := h
  rw [u8_wrap]
  unfold bitsS
  have : a = 1 ∨ a = 2 ∨ a = 3 := by omega
  rcases this with rfl | rfl | rfl <;> decide
theorem rd_ok_may {bs : List Int} {f : Fld} {s : Nat × Int} (h : (rdS bs f s).2.2 = 0) : f.may (rdS bs f s).1 = true := by
  have h0 := rdS_stick h
  unfold rdS at h ⊢
  rw [if_neg (by simp [h0])] at h ⊢
  split at h
  · cases h
  · rename_i hl
    rw [if_neg hl]
    cases hr : rdN f (leN ((bs.drop s.1).take f.size)) with
    | none => rw [hr] at h; cases h
    | some m =>
      unfold rdN at hr
      simp only [Option.ite_none_right_eq_some, Option.some.injEq] at hr
      obtain ⟨g1, g2⟩ := hr
      simp only
      rw [← g2]; exact g1
section
variable {E : Env} {w0 : World} {x : Bool}
/-- Where a reading stands: its objects (the answer's cell, the reader, the instruction). -/
structure RdSt (S : DSt) (k4 k9 k10 : Nat) (c : List D) (bs : List Int) (s : Nat × Int) (S' : DSt) : Prop where
  le : S.le S'
  n4 : S k4 = none
  n9 : S k9 = none
  n10 : S k10 = none
  d410 : k4 ≠ k10
  h4 : Cel S' k4 4 zC
  h9 : RrAt S' k9 bs s
  h10 : Cel S' k10 4 c
section
variable {S S' : DSt} {k4 k9 k10 : Nat} {c : List D} {bs : List Int} {s : Nat × Int}
theorem RdSt.d49 (h : RdSt S k4 k9 k10 c bs s S') : k4 ≠ k9 := h.h9.ne h.h4 (by decide)
theorem RdSt.d109 (h : RdSt S k4 k9 k10 c bs s S') : k10 ≠ k9 := h.h9.ne h.h10 (by decide)
theorem RdSt.set10 (h : RdSt S k4 k9 k10 c bs s S') {c' : List D} {a : List AV} : RdSt S k4 k9 k10 c' bs s (S'.set k10 ⟨4, [c'], a⟩) :=
  ⟨DSt.le_set h.le h.n10, h.n4, h.n9, h.n10, h.d410, h.h4.set_ne h.d410, h.h9.of (DSt.set_ne _ _ _ (Ne.symm h.d109)), Cel.new⟩
theorem RdSt.read (h : RdSt S k4 k9 k10 c bs s S') {s' : Nat × Int} {S2 : DSt} (hr : RrAt S2 k9 bs s') (e : ∀ j, j ≠ k9 → S' j ≠ none → S2 j = S' j) : RdSt S k4 k9 k10 c bs s' S2 := by
  refine ⟨fun j o ho => ?_, h.n4, h.n9, h.n10, h.d410, h.h4.of (e _ h.d49 h.h4.there), hr, h.h10.of (e _ h.d109 h.h10.there)⟩
  have hj : j ≠ k9 := fun e' => by rw [e', h.n9] at ho; cases ho
  have := h.le _ _ ho
  rw [e j hj (by rw [this]; simp)]; exact this
end
theorem ref12_Decode_ok {bs : List Int} (hb : ∀ b ∈ bs, Byte b) (hl : bs.length < 2 ^ 30) {n : Int} : Pure Try.prog E w0 f_ref12_Decode [bD bs, .int .i64 n] (datV (decT bs n)) := fun x S => by
  refine V_ref12_Decode_ok ?_
  unfold V_ref12_Decode
  intro k4 a4 n4
  have h4 : Cel (S.set k4 ⟨4, [zC], a4⟩) k4 4 zC := Cel.new
  change optW _ _
  have le4 : S.le (S.set k4 ⟨4, [zC], a4⟩) := DSt.le_new n4
  have zero : ∀ (e : Int) (T : DSt) (h : Cel T k4 4 zC) (hle : S.le T), decT bs n = (zDat, (0, e)) → storeD T 4 (.ptr k4 0) (.agg zC) fun v9 S10 => optW (loadAg S10 4 (.ptr k4 0)) fun v11 => FinD E (fun d' S' => d' = datV (decT bs n) ∧ S' = S) (.tup [v11, (.int .i64 0), (.int .i64 e)]) S10 := fun e T h hle he => by
    refine h.st (clA _) ⟨rfl, by decide, by decide⟩ fun a => ?_
    rw [(Cel.new).all (n := 4) (by decide) rfl, oD]
    refine FinD.less (DSt.le_set hle n4) (FinD.weak (d' := datV (decT bs n)) ?_ FinD.pure)
    rw [he]
    exact Wk.tup ⟨Wk.agg ⟨Wk.refl _, Wk.refl _, Wk.refl _, Wk.nil 2, trivial⟩, Wk.refl _, Wk.refl _, trivial⟩
  have fz : aggD (fillD [(D.int .u8 0), (.int .i64 0), (.int .i64 0), .nilSlc] []) = some (.agg zC) := rfl
  by_cases hn : n < 0 ∨ n ≥ bs.length
  · have e : decT bs n = (zDat, (0, 2)) := by unfold decT; rw [if_pos hn]
    rw [biLt, oD]
    by_cases h1 : n < 0
    · rw [decide_eq_true h1]
      simp only [wdB, vdF, oD, pdB, if_true, cdT, show ((true == false) = false) from rfl]
      rw [fz, oD]
      exact zero 2 _ h4 le4 e
    · have h2 : decide (n ≥ (bs.length : Int)) = true := decide_eq_true (hn.resolve_left h1)
      rw [decide_eq_false h1]
      simp only [wdB, vdT, oD, pdB, Bool.false_eq_true, if_false, bD_len, biGe, h2, cdT, show ((false == false) = true) from rfl]
      rw [fz, oD]
      exact zero 2 _ h4 le4 e
  have hn0 : ¬ n < 0 := fun h => hn (.inl h)
  have hn1 : ¬ n ≥ (bs.length : Int) := fun h => hn (.inr h)
  obtain ⟨p, rfl⟩ : ∃ p : Nat, n = (p : Int) := ⟨n.toNat, by omega⟩
  have hp : p < bs.length := by omega
  have edT : decT bs (p : Int) = decS bs p := by unfold decT; rw [if_neg hn]; rfl
  obtain ⟨op, hop⟩ : ∃ op, op = bs[p] := ⟨_, rfl⟩
  have hj : bs[p]? = some op := by rw [List.getElem?_eq_getElem hp, hop]
  have egd : bs.getD p 0 = op := by rw [List.getD_eq_getElem?_getD, hj]; rfl
  rw [biLt, oD, decide_eq_false hn0]
  simp only [wdB, vdT, oD, pdB, Bool.false_eq_true, if_false, bD_len, biGe, decide_eq_false hn1, cdF, show ((false == false) = true) from rfl]
  rw [bD_at hj, oD, lsE, List.getElem?_cons_zero, oD]
  refine ref12_parts_ok.use ?_
  simp only [exD, List.getElem?_cons_zero, List.getElem?_cons_succ, oD, unN]
  cases hlay : lay op with
  | none =>
    rw [show (!(none : Option (List Fld)).isSome) = true from rfl, cdT, fz, oD]
    exact zero 120 _ h4 le4 (by rw [edT]; unfold decS; rw [egd, if_pos hlay])
  | some l =>
  rw [show (!(some l).isSome) = false from rfl, cdF, biAdd, oD, wrap_i64 (by omega) (by omega)]
  have hag2 : aggD (fillD [.nilSlc, (D.int .i64 0), (.int .i64 0)] [(0, 1, bD bs), (1, 1, .int .i64 ((p : Int) + 1))]) = some (.agg (rrC bs ((p : Int) + 1) 0)) := rfl
  rw [hag2, oD, clA, oD]
  intro k9 a9 n9
  have h9 : Cel ((S.set k4 ⟨4, [zC], a4⟩).set k9 ⟨3, [rrC bs ((p : Int) + 1) 0], a9⟩) k9 3 (rrC bs ((p : Int) + 1) 0) := Cel.new
  have h4' := h4.set (o := ⟨3, [rrC bs ((p : Int) + 1) 0], a9⟩) n9
  have n9' : S k9 = none := DSt.none_of le4 n9
  have le9 : S.le ((S.set k4 ⟨4, [zC], a4⟩).set k9 ⟨3, [rrC bs ((p : Int) + 1) 0], a9⟩) := DSt.le_set le4 n9'
  change optW _ _
  rw [lsE, List.getElem?_cons_zero, oD]
  have hag : aggD (fillD [(D.int .u8 0), (.int .i64 0), (.int .i64 0), .nilSlc] [(0, 1, .int .u8 op)]) = some (.agg (datC op 0 0 .nilSlc)) := rfl
  rw [hag, oD]
  change allocD ((S.set k4 ⟨4, [zC], a4⟩).set k9 ⟨3, [rrC bs ((p : Int) + 1) 0], a9⟩) _ _
  generalize (S.set k4 ⟨4, [zC], a4⟩).set k9 ⟨3, [rrC bs ((p : Int) + 1) 0], a9⟩ = T9 at *
  intro k10 a10 n10
  have h10z : Cel (T9.set k10 ⟨4, [zC], a10⟩) k10 4 zC := Cel.new
  refine h10z.st (ds := datC op 0 0 .nilSlc) (clA _) ⟨rfl, by decide, by decide⟩ fun a10 => ?_
  rw [DSt.set_set, show setManyD zC 0 (datC op 0 0 .nilSlc) = datC op 0 0 .nilSlc from rfl]
  have d410 : k4 ≠ k10 := h4'.none n10
  have hl2 : l.length ≤ 2 := by have := lay_length (op := op); rw [hlay] at this; exact this
  have hgood : ∀ f ∈ l, goodF f := by have := goodF_lay op; rw [hlay] at this; exact this
  have hgd : (lay op).getD [] = l := by rw [hlay]; rfl
  have hst : ∀ {a10 : List AV}, RdSt S k4 k9 k10 (datC op 0 0 .nilSlc) bs (p + 1, 0) (T9.set k10 ⟨4, [datC op 0 0 .nilSlc], a10⟩) := fun {a10} =>
    ⟨DSt.le_set le9 (DSt.none_of le9 n10), n4, n9', DSt.none_of le9 n10, d410, h4'.set n10, ⟨_, h9.set n10, fun _ => by simp⟩, Cel.new⟩
  rw [show (some l).getD [] = l from rfl]
  have hs0 : ((p + 1, 0) : Nat × Int).1 ≤ bs.length := by show p + 1 ≤ bs.length; omega
  have edS : decS bs p = if (decX bs p).2.2 ≠ 0 then (zDat, (0, (decX bs p).2.2)) else decX bs p := by
    unfold decS; rw [egd, if_neg (by rw [hlay]; simp)]
  -- behind the numbers: arms
  have hend : ∀ {T : DSt} {a b : Int} {s : Nat × Int}, s.1 ≤ bs.length → RdSt S k4 k9 k10 (datC op a b .nilSlc) bs s T → rdFields bs l (p + 1, 0) = (a, b, s) → (s.2 = 0 → op = 49 → fWid.may a = true) →
      C_ref12_Decode_24 E w0 x (FinD E fun d' S' => d' = datV (decT bs (p : Int)) ∧ S' = S) (.ptr k4 0) (.ptr k9 0) (.ptr k10 0) T := fun {T a b s} hs hd hf hm => by
    refine C_ref12_Decode_24_ok ?_
    unfold P_ref12_Decode_24
    rw [ofP, oD, hd.h10.ld, show (datC op a b .nilSlc)[0 + 0]? = some (.int .u8 op) from rfl, oD, biEq, oD, cdB]
    have fin : ∀ {T' : DSt} {b' : Int} {arms : List (Int × Int)} {s' : Nat × Int} {c : List D}, RdSt S k4 k9 k10 c bs s' T' → c = datC op a b' .nilSlc ∧ arms = [] ∨ c = datC op a b' (armD arms) → decX bs p = ((op, a, b', arms), s') →
        C_ref12_Decode_30 E w0 x (FinD E fun d' S' => d' = datV (decT bs (p : Int)) ∧ S' = S) (.ptr k4 0) (.ptr k9 0) (.ptr k10 0) T' := fun {T' b' arms s' c} hd' hc hX => by
      have hv : datV (decT bs (p : Int)) = if s'.2 = 0 then .tup [.agg (datC op a b' (armD arms)), .int .i64 (s'.1 : Int), .int .i64 0] else .tup [.agg (datC 0 0 0 (armD [])), .int .i64 0, .int .i64 s'.2] := by
        rw [edT, edS, hX]
        by_cases he : s'.2 = 0
        · rw [if_neg (by simp [he]), if_pos he]; unfold datV; rw [he]; rfl
        · rw [if_pos (by simpa using he), if_neg he]; rfl
      refine C_ref12_Decode_30_ok ?_
      unfold P_ref12_Decode_30
      obtain ⟨q, c9, hq⟩ := hd'.h9
      have lc : c.length = 4 := by rcases hc with ⟨rfl, _⟩ | rfl <;> rfl
      have wk : Wk (.agg c) (.agg (datC op a b' (armD arms))) := by
        rcases hc with ⟨rfl, rfl⟩ | rfl
        · exact Wk.agg ⟨Wk.refl _, Wk.refl _, Wk.refl _, Wk.nil 2, trivial⟩
        · exact Wk.refl _
      have cl : cellsD (.agg c) = some c := clA _
      have ld2 : (rrC bs q s'.2)[2]? = some (.int .i64 s'.2) := rfl
      have ld1 : (rrC bs q s'.2)[1]? = some (.int .i64 q) := rfl
      simp only [ndP, ofP, oD, Nat.zero_add, c9.ld, ld2, ld1, biNe, fiN, agS]
      rw [bneD, cdI]
      refine ⟨fun he => ⟨by trivial, ?_⟩, fun he => ?_⟩
      · refine hd'.h4.st (clA _) ⟨rfl, by decide, by decide⟩ fun a4 => ⟨⟨?_, by trivial⟩, ?_⟩
        · rw [fwP, DSt.set_ne _ _ _ (Ne.symm hd'.d49)]
        rw [(Cel.new).all (n := 4) (by decide) rfl, oD]
        refine FinD.less (DSt.le_set hd'.le hd'.n4) (FinD.weak (d' := datV (decT bs (p : Int))) ?_ FinD.pure)
        rw [hv, if_neg he]
        exact Wk.tup ⟨Wk.agg ⟨Wk.refl _, Wk.refl _, Wk.refl _, Wk.nil 2, trivial⟩, Wk.refl _, Wk.refl _, trivial⟩
      · have he : s'.2 = 0 := Classical.not_not.1 he
        rw [hd'.h10.all (n := 4) (by decide) lc.symm, oD]
        refine ⟨by trivial, by trivial, ?_⟩
        refine hd'.h4.st (ds := c) (clA _) ⟨lc, by decide, by decide⟩ fun a4 => ⟨⟨?_, by trivial⟩, ?_⟩
        · rw [fwP, DSt.set_ne _ _ _ (Ne.symm hd'.d49)]
        have hset : setManyD zC 0 c = c := by
          rcases hc with ⟨rfl, rfl⟩ | rfl <;> rfl
        rw [hset, (Cel.new).all (n := 4) (by decide) lc.symm, oD]
        refine FinD.less (DSt.le_set hd'.le hd'.n4) (FinD.weak (d' := datV (decT bs (p : Int))) ?_ FinD.pure)
        rw [hv, if_pos he, ← hq he]
        exact Wk.tup ⟨wk, Wk.refl _, Wk.refl _, trivial⟩
    refine ⟨fun h49 => ?_, fun h49 => ?_⟩
    · have h49 : op = 49 := by simpa using h49
      have hX : decX bs p = decSw bs 49 a s := by unfold decX; rw [egd, if_pos h49, hgd, hf]
      rw [ofP, oD, hd.h10.ld, show (datC op a b .nilSlc)[0 + 1]? = some (.int .i64 a) from rfl, oD]
      refine (ref12_arms_ok hb hl hs (a := a) (fun h => bits_of_may (hm h h49)) hd.h9).use ?_
      rintro v T2 ⟨_, rfl, r2, e2, _⟩
      have hd2 := hd.read r2 e2
      have hsA : (rdArms bs (IntKind.u8.wrap a) (rdS bs fIx s).1.toNat (rdS bs fIx s).2 []).2.1 ≤ bs.length := rdArms_le _ _ _ (rdS_le hs)
      rw [ofP, oD]
      refine hd2.h10.st (clL _ _) ⟨rfl, by decide, by simp [datC]⟩ fun a' => ?_
      have hd3 := hd2.set10 (c' := datC op a b (armD (rdArms bs (IntKind.u8.wrap a) (rdS bs fIx s).1.toNat (rdS bs fIx s).2 []).1)) (a := a')
      refine ref12_leap_ok.use ((ref12_number_ok hb hl hsA goodF_leap hd3.h9).use ?_)
      rintro v T4 ⟨rfl, r4, e4⟩
      have hd4 := hd3.read r4 fun j hj _ => e4 j hj
      rw [ofP, oD]
      refine hd4.h10.st (clI _ _) ⟨rfl, by decide, by simp [datC]⟩ fun a'' => ?_
      exact fin (hd4.set10 (c' := datC op a (rdS bs fLeap (rdArms bs (IntKind.u8.wrap a) (rdS bs fIx s).1.toNat (rdS bs fIx s).2 []).2).1 (armD (rdArms bs (IntKind.u8.wrap a) (rdS bs fIx s).1.toNat (rdS bs fIx s).2 []).1))) (.inr rfl) (by rw [hX, h49]; rfl)
    · have h49 : ¬ op = 49 := by simpa using h49
      exact fin hd (.inl ⟨rfl, rfl⟩) (by unfold decX; rw [egd, if_neg h49, hgd, hf])
  have h20 : ∀ {T : DSt} {a : Int} {s : Nat × Int}, s.1 ≤ bs.length → RdSt S k4 k9 k10 (datC op a 0 .nilSlc) bs s T → (l = [] → rdFields bs l (p + 1, 0) = (a, 0, s)) → (∀ f l', l = f :: l' → a = (rdS bs f (p + 1, 0)).1 ∧ s = (rdS bs f (p + 1, 0)).2) →
      C_ref12_Decode_20 E w0 x (FinD E fun d' S' => d' = datV (decT bs (p : Int)) ∧ S' = S) (.ptr k4 0) (.lst (l.map parR) 4) (.ptr k9 0) (.ptr k10 0) T := fun {T a s} hs hd hnil hcons => by
    refine C_ref12_Decode_20_ok ?_
    unfold P_ref12_Decode_20
    have hm : s.2 = 0 → op = 49 → fWid.may a = true := fun h0 h49 => by
      have hl1 := lay49 hlay h49
      obtain ⟨e1, e2⟩ := hcons _ _ hl1
      rw [e1]
      exact rd_ok_may (by rw [← e2]; exact h0)
    rw [lnL, oD, List.length_map, biGt, oD, cdI]
    refine ⟨fun h1 => ?_, fun h1 => ?_⟩
    · have h1 : 1 < l.length := by omega
      obtain ⟨f, g, rfl⟩ : ∃ f g, l = [f, g] := by
        match l, hl2, h1 with
        | [f, g], _, _ => exact ⟨f, g, rfl⟩
      obtain ⟨e1, e2⟩ := hcons f [g] rfl
      rw [List.map_cons, List.map_cons, idx1, oD, ldPar, oD]
      refine (ref12_number_ok hb hl hs (hgood g (by simp)) hd.h9).use ?_
      rintro v T2 ⟨rfl, r2, e2'⟩
      have hd2 := hd.read r2 fun j hj _ => e2' j hj
      rw [ofP, oD]
      refine hd2.h10.st (clI _ _) ⟨rfl, by decide, by simp [datC]⟩ fun a' => ?_
      exact hend (rdS_le hs) (hd2.set10 (c' := datC op a (rdS bs g s).1 .nilSlc)) (by rw [e1, e2]; rfl) fun h0 h49 => by
        have := lay49 hlay h49
        simp at this
    · rcases (show l = [] ∨ ∃ f, l = [f] by
        match l, h1 with
        | [], _ => exact .inl rfl
        | [f], _ => exact .inr ⟨f, rfl⟩
        | _ :: _ :: _, h1 => exact (h1 (by simp; omega)).elim) with rfl | ⟨f, rfl⟩
      · exact hend hs hd (hnil rfl) hm
      · obtain ⟨e1, e2⟩ := hcons f [] rfl
        exact hend hs hd (by rw [e1, e2]; rfl) hm
  rw [lnL, oD, List.length_map, biGt, oD, cdI]
  refine ⟨fun h1 => ?_, fun h1 => ?_⟩
  · obtain ⟨f, l', rfl⟩ : ∃ f l', l = f :: l' := by
      match l, h1 with
      | [], h1 => simp at h1
      | f :: l', _ => exact ⟨f, l', rfl⟩
    rw [List.map_cons, idx0, oD, ldPar, oD]
    refine (ref12_number_ok hb hl hs0 (hgood f (by simp)) (hst (a10 := a10)).h9).use ?_
    rintro v T2 ⟨rfl, r2, e2⟩
    have hd2 := (hst (a10 := a10)).read r2 fun j hj _ => e2 j hj
    rw [ofP, oD]
    refine hd2.h10.st (clI _ _) ⟨rfl, by decide, by simp [datC]⟩ fun a' => ?_
    exact h20 (rdS_le hs0) (hd2.set10 (c' := datC op (rdS bs f (p + 1, 0)).1 0 .nilSlc)) (fun h => by cases h) fun f' l'' h => by cases h; exact ⟨rfl, rfl⟩
  · have hnil : l = [] := List.length_eq_zero_iff.1 (by omega)
    exact h20 hs0 hst (fun _ => by rw [hnil]; rfl) fun f l' h => by rw [hnil] at h; cases h
theorem ref12_All_ok {bs : List Int} (hb : ∀ b ∈ bs, Byte b) (hl : bs.length < 2 ^ 30) : Pure Try.prog E w0 f_ref12_All [bD bs] (allV (allS bs)) := fun x S => by
  refine V_ref12_All_ok ?_
  unfold V_ref12_All
  refine loop_ref12_All_0 (I := fun n x0 x5 x6 x7 T => x0 = bD bs ∧ ∃ (p : Nat) (done : List (Dat × Nat)), x7 = .int .i64 (p : Int) ∧ p ≤ bs.length ∧ bs.length < p + n ∧ done.length ≤ p ∧ GrP S [] x5 ((insOf done).map inC) 4 x6 (iC (plsOf done)) 1 T ∧ allS bs = prep done (allT bs n p)) ?_ (n := bs.length + 1)
    ⟨rfl, 0, [], rfl, by omega, by omega, by simp, GrP.nil, by unfold allS; cases allT bs (bs.length + 1) 0 <;> rfl⟩
  rintro n _ x5 x6 _ T ⟨rfl, p, done, rfl, hp, hpn, hdl, hg, hrun⟩
  unfold B_ref12_All_0
  rw [bD_len, oD, biLt, oD, cdI]
  obtain ⟨n, rfl⟩ : ∃ m, n = m + 1 := ⟨n - 1, by omega⟩
  refine ⟨fun hlt => ?_, fun hge => ?_⟩
  · have hlt : p < bs.length := by omega
    rw [allT_step hlt] at hrun
    refine (ref12_Decode_ok hb hl).use ?_
    unfold datV
    simp only [exD, List.getElem?_cons_zero, List.getElem?_cons_succ, oD]
    intro k a nk
    refine (Cel.new (sz := 4) (c := [.int .u8 0, .int .i64 0, .int .i64 0, .nilSlc])).st (ds := inC (inOf (decT bs p).1)) (clA _) ⟨rfl, by decide, by decide⟩ fun a' => ?_
    rw [DSt.set_set, show setManyD [.int .u8 0, .int .i64 0, .int .i64 0, .nilSlc] 0 (inC (inOf (decT bs p).1)) = inC (inOf (decT bs p).1) from rfl, biNe, oD, bneD, cdI]
    have hg2 := hg.set (o := ⟨4, [inC (inOf (decT bs p).1)], a'⟩) nk
    refine ⟨fun he => ?_, fun he => ?_⟩
    · rw [if_neg he] at hrun
      rw [hrun]
      refine FinD.less hg2.1 (FinD.weak (d' := .tup [insD [], iD [], .int .i64 (decT bs p).2.2]) (Wk.tup ⟨Wk.nil 4, Wk.nil 1, Wk.refl _, trivial⟩) FinD.pure)
    · have he : (decT bs p).2.2 = 0 := Classical.not_not.1 he
      obtain ⟨_, h1, h2⟩ := dec_next hb he
      rw [if_pos he, prep_step] at hrun
      rw [(Cel.new).all (n := 4) (by decide) rfl, oD, show fillR 4 (List.replicate 1 [(D.int .u8 0), (.int .i64 0), (.int .i64 0), .nilSlc]) [(0, .agg (inC (inOf (decT bs p).1)))] = some [inC (inOf (decT bs p).1)] from rfl]
      refine lit_lst rfl ?_
      refine hg2.push (news := [inC (inOf (decT bs p).1)]) (by simp [rowsS, rowsOf]) (by simp) (by simp [insOf]; omega) fun t' T' _ hg3 => ?_
      rw [show fillR 1 (List.replicate 1 [D.int .i64 0]) [(0, .int .i64 (p : Int))] = some (iC [(p : Int)]) from rfl]
      refine lit_lst rfl ?_
      refine hg3.swap.push (news := iC [(p : Int)]) (by simp [rowsS, rowsOf]) (by simp [iC, ones]) (by simp [plsOf]; omega) fun u' T2 _ hg4 => ?_
      refine ⟨n, by omega, by trivial, (decT bs p).2.1, done ++ [((decT bs p).1, p)], rfl, h2, by omega, by simp; omega, ?_, hrun⟩
      have e1 : (insOf (done ++ [((decT bs p).1, p)])).map inC = (insOf done).map inC ++ [inC (inOf (decT bs p).1)] := by simp [insOf]
      have e2 : iC (plsOf (done ++ [((decT bs p).1, p)])) = iC (plsOf done) ++ iC [(p : Int)] := by rw [← iC_append]; simp [plsOf]
      rw [e1, e2]
      exact hg4.swap
  · have e0 : allT bs (n + 1) p = .ok [] := by rw [allT, if_pos (by omega)]
    rw [e0] at hrun
    rw [hrun]
    refine hg.fin ?_
    have : allV (prep done (.ok [])) = .tup [.lst ((insOf done).map inC) 4, .lst (iC (plsOf done)) 1, .int .i64 0] := by simp [allV, prep, insD, iD]
    rw [this]
    exact FinD.pure
end
end Go.Proofs.Ytcboaonbfgjmgaa.d
end

section
open Go.Proofs Go Go.Am
namespace Go.Proofs.Ytcboaonbfgjmgaa.d
set_option linter.unusedVariables false
set_option maxRecDepth 100000
/- trammel/ops.typed -/
def lo_slices_Contains_uint8 : List (Nat × List Nat) := []
def cu_slices_Contains_uint8 : List (Nat × List Nat) := []
def V_slices_Contains_uint8 (E : Env) (w0 : World) (x : Bool) (Q : D → DSt → Prop) (a0 a1 : D) (S : DSt) : Prop :=
  DFn Try.prog E w0 x f_slices_Index_uint8 [a0, a1] S fun v0 S1 =>
  optW (binI .geq v0 (.int .i64 0)) fun v2 =>
  Q v2 S1
theorem V_slices_Contains_uint8_ok {E : Env} {w0 : World} {x : Bool} {Q : D → DSt → Prop} {a0 a1 : D} {S : DSt} (h : V_slices_Contains_uint8 E w0 x (FinD E Q) a0 a1 S) : DFn Try.prog E w0 x f_slices_Contains_uint8 [a0, a1] S Q :=
  fnD_of_vc lo_slices_Contains_uint8 cu_slices_Contains_uint8 (fn := Try.f79) (c := Try.f79.body.getD .skip) mixed Try.func79 (by kernel_rfl) (by kernel_rfl) h

/- slices.Index[[]uint8,uint8] -/
def lo_slices_Index_uint8 : List (Nat × List Nat) := [(4, [0, 1, 7, 8])]
def cu_slices_Index_uint8 : List (Nat × List Nat) := []
noncomputable def L_slices_Index_uint8_0 : Code := (codeAt [1, 0, 1, 0, 0] (Try.f81.body.getD .skip))
def K_slices_Index_uint8_0 (E : Env) (w0 : World) (x : Bool) (Q : D → DSt → Prop) : AExit → List D → DSt → Prop :=
  (blockD 0 (seqD Try.prog E w0 x lo_slices_Index_uint8 cu_slices_Index_uint8 (codeAt [1, 1] (Try.f81.body.getD .skip)) (retD Try.prog Try.f81 Q)))
def B_slices_Index_uint8_0 (E : Env) (w0 : World) (x : Bool) (N0 : D → D → D → D → DSt → Prop) (Q : D → DSt → Prop) (x0 x1 x7 x8 : D) (S : DSt) : Prop :=
  optW (binI .lss x8 x7) fun v1 =>
  condD v1
  (optW (idxSl 1 x0 x8) fun v2 =>
  optW (loadSc S v2) fun v3 =>
  optW (binI .eql x1 v3) fun v4 =>
  condD v4
  (Q x8 S)
  (optW (binI .add x8 (.int .i64 1)) fun v5 =>
  N0 x0 x1 x7 v5 S))
  (Q (.int .i64 (-1)) S)
theorem B_slices_Index_uint8_0_ok {E : Env} {w0 : World} {x : Bool} {N0 : D → D → D → D → DSt → Prop} {Q : D → DSt → Prop} {x0 x1 x7 x8 : D} {S : DSt} (h : B_slices_Index_uint8_0 E w0 x N0 Q x0 x1 x7 x8 S) :
    CodeD Try.prog E w0 x L_slices_Index_uint8_0 (mkRow 19 [0, 1, 7, 8] [x0, x1, x7, x8]) S (loopKD (fun T S => N0 (T.getD 0 undefD) (T.getD 1 undefD) (T.getD 7 undefD) (T.getD 8 undefD) S) (K_slices_Index_uint8_0 E w0 x Q)) := codeD_of_vc lo_slices_Index_uint8 cu_slices_Index_uint8 mixed (by kernel_rfl) h
theorem loop_slices_Index_uint8_0 {E : Env} {w0 : World} {x : Bool} {Q : D → DSt → Prop} (I : Nat → D → D → D → D → DSt → Prop)
    (step : ∀ n x0 x1 x7 x8 S, I n x0 x1 x7 x8 S → B_slices_Index_uint8_0 E w0 x (fun x0 x1 x7 x8 S => ∃ m, m < n ∧ I m x0 x1 x7 x8 S) Q x0 x1 x7 x8 S)
    {n : Nat} {x0 x1 x7 x8 : D} {S : DSt} (h : I n x0 x1 x7 x8 S) : CodeD Try.prog E w0 x (.loop L_slices_Index_uint8_0) (mkRow 19 [0, 1, 7, 8] [x0, x1, x7, x8]) S (K_slices_Index_uint8_0 E w0 x Q) :=
  codeD_loop (k := 19) (n := n) (I := fun n T S => I n (T.getD 0 undefD) (T.getD 1 undefD) (T.getD 7 undefD) (T.getD 8 undefD) S) (fun n T S hl hI => codeD_row [0, 1, 7, 8] hl (CodeD.mono (B_slices_Index_uint8_0_ok (step n _ _ _ _ S hI)) fun ex T' S' _ hq => by cases ex <;> exact hq)) (mkRow_length ..) (Eq.mp (by kernel_rfl) h)
def V_slices_Index_uint8 (E : Env) (w0 : World) (x : Bool) (Q : D → DSt → Prop) (a0 a1 : D) (S : DSt) : Prop :=
  optW (lenSl a0) fun v0 =>
  CodeD Try.prog E w0 x (.loop L_slices_Index_uint8_0) (mkRow 19 [0, 1, 7, 8] [a0, a1, v0, (.int .i64 0)]) S (K_slices_Index_uint8_0 E w0 x Q)
theorem V_slices_Index_uint8_ok {E : Env} {w0 : World} {x : Bool} {Q : D → DSt → Prop} {a0 a1 : D} {S : DSt} (h : V_slices_Index_uint8 E w0 x (FinD E Q) a0 a1 S) : DFn Try.prog E w0 x f_slices_Index_uint8 [a0, a1] S Q :=
  fnD_of_vc lo_slices_Index_uint8 cu_slices_Index_uint8 (fn := Try.f81) (c := Try.f81.body.getD .skip) mixed Try.func81 (by kernel_rfl) (by kernel_rfl) h
end Go.Proofs.Ytcboaonbfgjmgaa.d
end

section
open Go.Proofs Go Go.Am Go.Op
namespace Go.Proofs.Ytcboaonbfgjmgaa.d
set_option linter.unusedVariables false
set_option linter.unusedSimpArgs false
set_option maxRecDepth 100000
/-- Numbers in a list of one's own. -/
def Own (S0 : DSt) (d : D) (l : List Int) (S : DSt) : Prop :=
  (d = .nilSlc ∧ l = [] ∧ S = S0) ∨ ∃ k acs ex, S0 k = Option.none ∧ d = .raw k 0 l.length l.length ex 1 ∧ S = S0.set k ⟨1, iC l, acs⟩
theorem Own.le {S0 S : DSt} {d : D} {l : List Int} (h : Own S0 d l S) : S0.le S := by
  rcases h with ⟨_, _, rfl⟩ | ⟨k, acs, ex, h, _, rfl⟩
  · exact DSt.le_refl _
  · exact DSt.le_new h
theorem Own.nil (S : DSt) : Own S .nilSlc [] S := .inl ⟨rfl, rfl, rfl⟩
theorem Own.cells {S0 S : DSt} {d : D} {l : List Int} (h : Own S0 d l S) : cellsD d = some [d] := by rcases h with ⟨rfl, _⟩ | ⟨_, _, _, _, rfl, _⟩ <;> rfl
theorem Own.base {S0 S1 S : DSt} {d : D} {l : List Int} (h : Own S1 d l S) (hle : S0.le S1) : ∃ S', S'.le S ∧ Own S0 d l S' := by
  rcases h with ⟨rfl, rfl, rfl⟩ | ⟨k, acs, ex, h, rfl, rfl⟩
  · exact ⟨S0, hle, .inl ⟨rfl, rfl, rfl⟩⟩
  · have hk : S0 k = Option.none := by
      cases e : S0 k with
      | none => rfl
      | some o => rw [hle _ _ e] at h; cases h
    refine ⟨S0.set k ⟨1, iC l, acs⟩, fun j o e => ?_, .inr ⟨k, acs, ex, hk, rfl, rfl⟩⟩
    unfold DSt.set at e ⊢
    split at e
    · rename_i hj; rw [if_pos hj]; exact e
    · rename_i hj; rw [if_neg hj]; exact hle _ _ e
theorem Own.upd {S0 S : DSt} {d : D} {l : List Int} {k : Nat} {o o' : DObj} (h : Own S0 d l S) (hk : S0 k = some o') : Own (S0.set k o) d l (S.set k o) := by
  rcases h with ⟨rfl, rfl, rfl⟩ | ⟨j, acs, ex, h, rfl, rfl⟩
  · exact .inl ⟨rfl, rfl, rfl⟩
  · have hne : j ≠ k := fun e => by rw [e, hk] at h; cases h
    refine .inr ⟨j, acs, ex, ?_, rfl, DSt.set_comm _ hne _ _⟩
    rw [DSt.set_ne _ _ _ hne]; exact h
/-- Two of them. -/
def Two (S0 : DSt) (c : D) (lc : List Int) (d : D) (ld : List Int) (S : DSt) : Prop := ∃ S1, Own S0 c lc S1 ∧ Own S1 d ld S
theorem Two.base {S0 S1 S : DSt} {c d : D} {lc ld : List Int} (h : Two S1 c lc d ld S) (hle : S0.le S1) : ∃ S', S'.le S ∧ Two S0 c lc d ld S' := by
  obtain ⟨S2, h1, h2⟩ := h
  obtain ⟨S2', l2, g1⟩ := h1.base hle
  obtain ⟨S', l3, g2⟩ := h2.base l2
  exact ⟨S', l3, S2', g1, g2⟩
theorem Two.upd {S0 S : DSt} {c d : D} {lc ld : List Int} {k : Nat} {o o' : DObj} (h : Two S0 c lc d ld S) (hk : S0 k = some o') : Two (S0.set k o) c lc d ld (S.set k o) := by
  obtain ⟨S2, h1, h2⟩ := h
  exact ⟨S2.set k o, h1.upd hk, h2.upd (h1.le _ _ hk)⟩
theorem Two.le {S0 S : DSt} {c d : D} {lc ld : List Int} (h : Two S0 c lc d ld S) : S0.le S := by
  obtain ⟨S2, h1, h2⟩ := h
  exact DSt.le_trans h1.le h2.le
section
variable {E : Env} {w0 : World}
theorem index_ok {l : List Int} {v : Int} (hl : l.length < 2 ^ 60) : Pure Try.prog E w0 f_slices_Contains_uint8 [bD l, .int .u8 v] (.bool (l.contains v)) := fun x S => by
  refine V_slices_Contains_uint8_ok ?_
  unfold V_slices_Contains_uint8
  have key : DFn Try.prog E w0 x f_slices_Index_uint8 [bD l, .int .u8 v] S fun d S' => S' = S ∧ ∃ n : Int, d = .int .i64 n ∧ decide (n ≥ 0) = l.contains v := by
    refine V_slices_Index_uint8_ok ?_
    unfold V_slices_Index_uint8
    rw [bD_len, oD]
    refine loop_slices_Index_uint8_0 (I := fun n x0 x1 x7 x8 S' => S = S' ∧ x0 = bD l ∧ x1 = .int .u8 v ∧ x7 = .int .i64 (l.length : Int) ∧ ∃ i : Nat, x8 = .int .i64 (i : Int) ∧ i + n = l.length ∧ v ∉ l.take i) ?_ (n := l.length) ⟨rfl, rfl, rfl, rfl, 0, rfl, by omega, by simp⟩
    rintro n _ _ _ _ _ ⟨rfl, rfl, rfl, rfl, i, rfl, hi, hn⟩
    unfold B_slices_Index_uint8_0
    rw [biLt, oD, cdI]
    refine ⟨fun hlt => ?_, fun hge => ?_⟩
    · have hlt : i < l.length := by omega
      have ea : l[i]? = some l[i] := List.getElem?_eq_getElem hlt
      rw [bD_at ea, oD, lsE, List.getElem?_cons_zero, oD, biEq, oD, beqD, cdI]
      refine ⟨fun e => FinD.here ⟨rfl, i, rfl, ?_⟩, fun e => ?_⟩
      · rw [decide_eq_true (by omega)]
        symm
        rw [List.contains_iff_mem, e]
        exact List.getElem_mem _
      · rw [biAdd, oD, wrap_i64 (by omega) (by omega)]
        refine ⟨n - 1, by omega, rfl, rfl, rfl, rfl, i + 1, rfl, by omega, ?_⟩
        rw [List.take_add_one, ea, Option.toList_some, List.mem_append, List.mem_singleton]
        exact fun h => h.elim hn e
    · rw [List.take_of_length_le (by omega)] at hn
      refine FinD.here ⟨rfl, -1, rfl, ?_⟩
      rw [decide_eq_false (by omega)]
      symm
      rw [← Bool.not_eq_true, List.contains_iff_mem]
      exact hn
  refine key.use ?_
  rintro d S' ⟨rfl, n, rfl, h⟩
  rw [biGe, oD, h]
  exact FinD.pure
end
end Go.Proofs.Ytcboaonbfgjmgaa.d
end

section
open Go.Proofs Go Go.Am Go.Op
namespace Go.Proofs.Ytcboaonbfgjmgaa.d
set_option linter.unusedVariables false
set_option linter.unusedSimpArgs false
set_option maxRecDepth 100000
theorem Own.swap {S0 S1 S : DSt} {t u : D} {r q : List Int} (h : Own S0 t r S1) (h' : Own S1 u q S) : ∃ S2, Own S0 u q S2 ∧ Own S2 t r S := by
  rcases h with ⟨rfl, rfl, rfl⟩ | ⟨k, acs, ex, hk, rfl, rfl⟩
  · exact ⟨S, h', .inl ⟨rfl, rfl, rfl⟩⟩
  · rcases h' with ⟨rfl, rfl, rfl⟩ | ⟨l, bcs, ex', hl, rfl, rfl⟩
    · exact ⟨S0, .inl ⟨rfl, rfl, rfl⟩, .inr ⟨k, acs, ex, hk, rfl, rfl⟩⟩
    · obtain ⟨hne, hl0⟩ := DSt.fresh hl
      refine ⟨S0.set l ⟨1, iC q, bcs⟩, .inr ⟨l, bcs, ex', hl0, rfl, rfl⟩, .inr ⟨k, acs, ex, ?_, rfl, ?_⟩⟩
      · rw [DSt.set_ne _ _ _ (Ne.symm hne)]; exact hk
      · exact DSt.set_comm _ (Ne.symm hne) _ _
section
variable {E : Env} {w0 : World} {S S3 : DSt} {k2 : Nat} {cs : List D} {a2 : List AV}
variable (hle : S.le S3) (hn : S k2 = none) (h2 : S3 k2 = some ⟨3, [cs], a2⟩) (hcs : cs.length = 3) {x : Bool}
include hle hn h2 hcs
end
section
variable {E : Env} {w0 : World} {S S3 : DSt} {k k2 : Nat} {a a2 : List AV} {y : In}
variable (hle : S.le S3) (hn : S k2 = none) (h0 : S3 k = some ⟨4, [inC y], a⟩) (h2 : S3 k2 = some ⟨3, [[.nilSlc, .nilSlc, .bool false]], a2⟩)
include hle hn h2
end
section
variable {E : Env} {w0 : World}
end
end Go.Proofs.Ytcboaonbfgjmgaa.d
end

section
open Go.Proofs Go Go.Am Go.Op
namespace Go.Proofs.Ytcboaonbfgjmgaa.d
set_option linter.unusedVariables false
set_option linter.unusedSimpArgs false
set_option maxRecDepth 100000
section
variable {E : Env} {w0 : World}
theorem works_ok : Pure Try.prog E w0 f_law12_works [] (.bool true) := fun x S => by
  have key : ∀ H, FnX Try.prog E w0 f_law12_works [] H fun v H' => v = .bool true ∧ H' = H := fun H => by
    have h : (callFA Try.prog (fun _ => none) noOv 200 f_law12_works [] AHeap.empty).map (·.1) = some (.bool true) := by kernel_rfl
    cases hr : callFA Try.prog (fun _ => none) noOv 200 f_law12_works [] AHeap.empty with
    | none => rw [hr] at h; cases h
    | some r =>
      obtain ⟨v, H1⟩ := r
      rw [hr] at h
      simp only [Option.map_some, Option.some.injEq] at h
      subst h
      refine (fnX_pure mixed hr ?_ ?_).mono fun v' H' h => h
      · intro ρ vs h
        exact h
      · intro ρ ρ' u h
        exact h
  refine DFn.any ?_
  intro R H avs hF hC ha
  have : avs = [] := by simpa only [RpL] using ha
  subst this
  refine (key H).mono ?_
  rintro v H' ⟨rfl, rfl⟩
  exact ⟨hF, R, S, .bool true, Fz.le_refl R, hC, by simp only [Rp], rfl, rfl⟩
/-- Numbers that can be read where they stand. -/
def RdI (S : DSt) (d : D) (l : List Int) : Prop := lenSl d = some (.int .i64 (l.length : Int)) ∧ ∀ (i : Nat) (v : Int), l[i]? = some v → ∃ p, idxSl 1 d (.int .i64 (i : Int)) = some p ∧ loadSc S p = some (.int .i64 v)
theorem rdI_lst (S : DSt) (l : List Int) : RdI S (iD l) l := ⟨iD_len l, fun i v h => ⟨_, iD_at h, rfl⟩⟩
theorem sameInts_rd {a b : List Int} (hl : a.length < 2 ^ 60) (hb : b.length < 2 ^ 60) {x : Bool} {S : DSt} {da db : D} (ra : RdI S da a) (rb : RdI S db b) : DFn Try.prog E w0 x f_kit_SameInts [da, db] S fun d' S' => d' = .bool (decide (a = b)) ∧ S' = S := by
  refine V_kit_SameInts_ok ?_
  unfold V_kit_SameInts
  simp only [ra.1, rb.1, oD, biNe]
  rw [bneD, cdI]
  refine ⟨fun h => ?_, fun h => ?_⟩
  · rw [decide_eq_false (fun e => h (by rw [e]))]
    exact FinD.pure
  have h : a.length = b.length := by omega
  refine loop_kit_SameInts_0 (I := fun n x0 x1 x5 S' => S = S' ∧ x0 = da ∧ x1 = db ∧ ∃ i : Nat, x5 = .int .i64 (i : Int) ∧ i + n = a.length ∧ a.take i = b.take i) ?_ (n := a.length) ⟨rfl, rfl, rfl, 0, rfl, by omega, rfl⟩
  rintro n _ _ _ _ ⟨rfl, rfl, rfl, i, rfl, hi, ht⟩
  unfold B_kit_SameInts_0
  simp only [ra.1, oD, biLt]
  rw [cdI]
  refine ⟨fun hlt => ?_, fun hge => ?_⟩
  · have hlt : i < a.length := by omega
    have ea : a[i]? = some a[i] := List.getElem?_eq_getElem hlt
    have eb : b[i]? = some b[i] := List.getElem?_eq_getElem (by omega)
    obtain ⟨p, p1, p2⟩ := ra.2 i _ ea
    obtain ⟨q, q1, q2⟩ := rb.2 i _ eb
    simp only [p1, p2, q1, q2, oD, biNe]
    refine ⟨by trivial, by trivial, ?_⟩
    rw [bneD, cdI]
    refine ⟨fun hne => ?_, fun he => ?_⟩
    · rw [decide_eq_false (fun e => hne (by simp only [e]))]
      exact FinD.pure
    · rw [biAdd, oD, wrap_i64 (by omega) (by omega)]
      refine ⟨n - 1, by omega, by trivial, by trivial, by trivial, i + 1, rfl, by omega, ?_⟩
      rw [List.take_add_one, List.take_add_one, ht, ea, eb, Classical.not_not.1 he]
  · rw [List.take_of_length_le (by omega), List.take_of_length_le (by omega)] at ht
    rw [decide_eq_true ht]
    exact FinD.pure
end
end Go.Proofs.Ytcboaonbfgjmgaa.d
end
