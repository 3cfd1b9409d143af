/-
  Texts Pa Pb Pc Pd Pe Pf Pg Ph Pi Pj Pk Om, as one.
-/
import Derived.Test.YtcboaonbfgjmgaaOz
import Derived.Test.YtcboaonbfgjmgaaVy
import Derived.Test.YtcboaonbfgjmgaaAm33
import Derived.SizedLaws
/-
  Reading an instruction: the plain laws.
-/
open Go.Proofs Go Go.Am
namespace Go.Proofs.Ytcboaonbfgjmgaa.op
set_option linter.unusedVariables false
set_option linter.unusedSimpArgs false
set_option maxRecDepth 100000

/-- A number of bytes, the lowest first. -/
def leN : List Int → Nat
  | [] => 0
  | b :: l => b.toNat + 256 * leN l
def Byte (b : Int) : Prop := 0 ≤ b ∧ b ≤ 255

theorem fixS_succ (n : Int) (s : Nat) : fixS n (s + 1) = byteAt n 0 :: fixS (n / 256) s := by
  unfold fixS
  rw [List.range_succ_eq_map, List.map_cons, List.map_map]
  congr 1
  refine List.map_congr_left fun i _ => ?_
  simp only [Function.comp, byteAt]
  rw [show 8 * (i + 1) = 8 + 8 * i by omega, Int.pow_add, ← Int.ediv_ediv_of_nonneg (by decide)]
  rfl
theorem byte_fix (n : Int) (s : Nat) : ∀ b ∈ fixS n s, Byte b := by
  intro b hb
  obtain ⟨i, _, rfl⟩ := List.mem_map.1 hb
  unfold byteAt Byte
  omega
theorem leN_fix : ∀ (s : Nat) (n : Int), (leN (fixS n s) : Int) = n % 2 ^ (8 * s)
  | 0, n => by simp [fixS, leN, Int.emod_one]
  | s + 1, n => by
    have ih := leN_fix s (n / 256)
    rw [fixS_succ, leN]
    have hM : (0 : Int) < 2 ^ (8 * s) := Int.pow_pos (by decide)
    have hp : (2 : Int) ^ (8 * (s + 1)) = 256 * 2 ^ (8 * s) := by rw [show 8 * (s + 1) = 8 + 8 * s by omega, Int.pow_add]; rfl
    have hb : ((byteAt n 0).toNat : Int) = n % 256 := by
      have : byteAt n 0 = n % 256 := by simp [byteAt]
      rw [this]; omega
    rw [Int.natCast_add, Int.natCast_mul, ih, hb, hp]
    have h1 := Int.emod_nonneg (n / 256) (show (2 : Int) ^ (8 * s) ≠ 0 by omega)
    have h2 := Int.emod_lt_of_pos (n / 256) hM
    have h3 := Int.mul_ediv_add_emod (n / 256) (2 ^ (8 * s))
    have h4 := Int.mul_ediv_add_emod n 256
    refine ((Int.ediv_emod_unique (a := n) (b := 256 * 2 ^ (8 * s)) (q := n / 256 / 2 ^ (8 * s)) (by omega)).2 ⟨?_, by omega, ?_⟩).2.symm
    · have : 256 * 2 ^ (8 * s) * (n / 256 / 2 ^ (8 * s)) = 256 * (2 ^ (8 * s) * (n / 256 / 2 ^ (8 * s))) := by rw [Int.mul_assoc]
      rw [this]
      omega
    · omega
theorem leN_inj : ∀ {l m : List Int}, (∀ b ∈ l, Byte b) → (∀ b ∈ m, Byte b) → l.length = m.length → leN l = leN m → l = m
  | [], [], _, _, _, _ => rfl
  | [], b :: m, _, _, h, _ => by simp at h
  | a :: l, [], _, _, h, _ => by simp at h
  | a :: l, b :: m, hl, hm, h, e => by
    obtain ⟨a0, a1⟩ := hl a (by simp)
    obtain ⟨b0, b1⟩ := hm b (by simp)
    simp only [leN] at e
    have hab : a = b := by omega
    have hlm : leN l = leN m := by omega
    rw [hab, leN_inj (fun x hx => hl x (by simp [hx])) (fun x hx => hm x (by simp [hx])) (by simpa using h) hlm]
theorem leN_lt : ∀ {l : List Int}, (∀ b ∈ l, Byte b) → leN l < 2 ^ (8 * l.length)
  | [], _ => by simp [leN]
  | a :: l, h => by
    obtain ⟨a0, a1⟩ := h a (by simp)
    have ih := leN_lt (fun x hx => h x (by simp [hx]) : ∀ b ∈ l, Byte b)
    have hp : 2 ^ (8 * (l.length + 1)) = 256 * 2 ^ (8 * l.length) := by rw [show 8 * (l.length + 1) = 8 + 8 * l.length by omega, Nat.pow_add]
    rw [leN, List.length_cons, hp]
    omega

/-- A field that a number can be told for. -/
def goodF (f : Fd) : Prop := 1 ≤ f.size ∧ ((f.size ≤ 7 ∧ 0 ≤ f.lo ∧ f.hi < 2 ^ (8 * f.size)) ∨ (f.size ≤ 7 ∧ -(2 ^ (8 * f.size - 1)) ≤ f.lo ∧ f.hi < 2 ^ (8 * f.size - 1)) ∨ (f.size = 8 ∧ -9223372036854775808 ≤ f.lo ∧ f.hi ≤ 9223372036854775807))

/-- The number that bytes tell, if it may be. -/
def rdN (f : Fd) (u : Nat) : Option Int :=
  let n := IntKind.i64.wrap (u : Int)
  let n' := if f.may n = false ∧ f.size < 8 then n - 2 ^ (8 * f.size) else n
  if f.may n' = true then some n' else none

theorem i64_mod (z : Int) : IntKind.i64.wrap z % 18446744073709551616 = z % 18446744073709551616 := by
  simp only [IntKind.wrap, IntKind.bits, IntKind.signed]; simp
  split <;> omega

theorem rdN_mod {f : Fd} {u : Nat} {n : Int} (h : rdN f u = some n) (h8 : f.size ≤ 8) : f.may n = true ∧ n % 2 ^ (8 * f.size) = (u : Int) % 2 ^ (8 * f.size) := by
  unfold rdN at h
  simp only at h
  obtain ⟨n', hn'⟩ : ∃ n', n' = if f.may (IntKind.i64.wrap (u : Int)) = false ∧ f.size < 8 then IntKind.i64.wrap (u : Int) - 2 ^ (8 * f.size) else IntKind.i64.wrap (u : Int) := ⟨_, rfl⟩
  rw [← hn'] at h
  have hw : IntKind.i64.wrap (u : Int) % 2 ^ (8 * f.size) = (u : Int) % 2 ^ (8 * f.size) := by
    have hd : ((2 : Int) ^ (8 * f.size)) ∣ 18446744073709551616 := by
      refine ⟨2 ^ (64 - 8 * f.size), ?_⟩
      rw [← Int.pow_add, show 8 * f.size + (64 - 8 * f.size) = 64 by omega]
      rfl
    rw [← Int.emod_emod_of_dvd _ hd, i64_mod, Int.emod_emod_of_dvd _ hd]
  split at h
  · rename_i hm
    cases h
    refine ⟨hm, ?_⟩
    rw [hn']
    split
    · rw [Int.sub_emod_right]; exact hw
    · exact hw
  · cases h

theorem rdN_fix {f : Fd} (hf : goodF f) {n : Int} (hm : f.may n = true) : rdN f (n % 2 ^ (8 * f.size)).toNat = some n := by
  obtain ⟨h1, hf⟩ := hf
  have hm' : f.lo ≤ n ∧ n ≤ f.hi := by simpa [Fd.may] using hm
  have hM : (0 : Int) < 2 ^ (8 * f.size) := Int.pow_pos (by decide)
  obtain ⟨M, hMe⟩ : ∃ M : Int, M = 2 ^ (8 * f.size) := ⟨_, rfl⟩
  have h0 := Int.emod_nonneg n (show (2 : Int) ^ (8 * f.size) ≠ 0 by omega)
  have h2 := Int.emod_lt_of_pos n hM
  have hu : (((n % 2 ^ (8 * f.size)).toNat : Nat) : Int) = n % 2 ^ (8 * f.size) := by omega
  unfold rdN
  simp only [hu]
  rcases hf with ⟨h7, hlo, hhi⟩ | ⟨h7, hlo, hhi⟩ | ⟨h8, hlo, hhi⟩
  · have hle : (2 : Int) ^ (8 * f.size) ≤ 2 ^ 56 := by
      have : 2 ^ (8 * f.size) ≤ 2 ^ 56 := Nat.pow_le_pow_right (by decide) (by omega)
      exact_mod_cast this
    have hn : n % 2 ^ (8 * f.size) = n := Int.emod_eq_of_lt (by omega) (by omega)
    rw [hn, wrap_i64 (by omega) (by omega)]
    simp [hm]
  · have hle : (2 : Int) ^ (8 * f.size) ≤ 2 ^ 56 := by
      have : 2 ^ (8 * f.size) ≤ 2 ^ 56 := Nat.pow_le_pow_right (by decide) (by omega)
      exact_mod_cast this
    have hh : (2 : Int) ^ (8 * f.size) = 2 * 2 ^ (8 * f.size - 1) := by
      rw [show 8 * f.size = 1 + (8 * f.size - 1) by omega, Int.pow_add, show 1 + (8 * f.size - 1) - 1 = 8 * f.size - 1 by omega]
      rfl
    have hp : (0 : Int) < 2 ^ (8 * f.size - 1) := Int.pow_pos (by decide)
    by_cases hn : 0 ≤ n
    · have hn : n % 2 ^ (8 * f.size) = n := Int.emod_eq_of_lt hn (by omega)
      rw [hn, wrap_i64 (by omega) (by omega)]
      simp [hm]
    · have hn : n % 2 ^ (8 * f.size) = n + 2 ^ (8 * f.size) := by
        rw [← Int.add_emod_right]
        exact Int.emod_eq_of_lt (by omega) (by omega)
      rw [hn, wrap_i64 (by omega) (by omega)]
      have hno : f.may (n + 2 ^ (8 * f.size)) = false := by
        unfold Fd.may
        exact decide_eq_false (by omega)
      have hc : f.may (n + 2 ^ (8 * f.size)) = false ∧ f.size < 8 := ⟨hno, by omega⟩
      rw [if_pos hc, show n + 2 ^ (8 * f.size) - 2 ^ (8 * f.size) = n by omega, if_pos hm]
  · have hs : (2 : Int) ^ (8 * f.size) = 18446744073709551616 := by rw [h8]; rfl
    have iw : ∀ z : Int, IntKind.i64.wrap z = if 9223372036854775808 ≤ z % 18446744073709551616 then z % 18446744073709551616 - 18446744073709551616 else z % 18446744073709551616 := by
      intro z
      simp only [IntKind.wrap, IntKind.bits, IntKind.signed]; simp
    have hn : IntKind.i64.wrap (n % 18446744073709551616) = n := by
      rw [iw]; split <;> omega
    rw [hs, hn, h8]
    simp [hm]

/-- A field, read. -/
def rdS (bs : List Int) (f : Fd) (s : Nat × Int) : Int × Nat × Int :=
  if s.2 ≠ 0 then (0, s.1, s.2) else if bs.length < s.1 + f.size then (0, s.1, 10) else
  match rdN f (leN ((bs.drop s.1).take f.size)) with
  | some n => (n, s.1 + f.size, 0)
  | none => (0, s.1, 120)

/-- What was written is read. -/
theorem rdS_fix {pre post : List Int} {f : Fd} (hf : goodF f) {n : Int} (hm : f.may n = true) : rdS (pre ++ fixS n f.size ++ post) f (pre.length, 0) = (n, pre.length + f.size, 0) := by
  unfold rdS
  have hlen := fixS_length n f.size
  rw [if_neg (by simp), if_neg (by simp only [List.length_append, hlen]; omega)]
  have hd : (((pre ++ fixS n f.size ++ post).drop pre.length).take f.size) = fixS n f.size := by
    rw [List.append_assoc, List.drop_left]
    exact List.take_left' hlen
  have hu : leN (fixS n f.size) = (n % 2 ^ (8 * f.size)).toNat := by
    have := leN_fix f.size n
    omega
  simp only
  rw [hd, hu, rdN_fix hf hm]
/-- What is too short is told so. -/
theorem rdS_short {bs : List Int} {f : Fd} {at_ : Nat} (h : bs.length < at_ + f.size) : rdS bs f (at_, 0) = (0, at_, 10) := by
  unfold rdS
  rw [if_neg (by simp), if_pos h]
theorem rdS_err {bs : List Int} {f : Fd} {s : Nat × Int} (h : s.2 ≠ 0) : rdS bs f s = (0, s) := by
  unfold rdS
  rw [if_pos h]
/-- What is read was written. -/
theorem rdS_is {bs : List Int} (hb : ∀ b ∈ bs, Byte b) {f : Fd} (h8 : f.size ≤ 8) {at_ : Nat} {n : Int} {at' : Nat} (h : rdS bs f (at_, 0) = (n, at', 0)) : f.may n = true ∧ at' = at_ + f.size ∧ at' ≤ bs.length ∧ (bs.drop at_).take f.size = fixS n f.size := by
  unfold rdS at h
  rw [if_neg (by simp)] at h
  split at h
  · cases h
  rename_i hlen
  simp only at h hlen
  split at h
  · rename_i m hm
    cases h
    obtain ⟨g1, g2⟩ := rdN_mod hm h8
    have hbs : ∀ b ∈ (bs.drop at_).take f.size, Byte b := fun b hb' => hb b (List.mem_of_mem_drop (List.mem_of_mem_take hb'))
    have hl : ((bs.drop at_).take f.size).length = f.size := by rw [List.length_take, List.length_drop]; omega
    refine ⟨g1, rfl, by omega, leN_inj hbs (byte_fix _ _) (by rw [hl, fixS_length]) ?_⟩
    have e1 := leN_fix f.size n
    have e2 := leN_lt hbs
    rw [hl] at e2
    have e3 : ((leN ((bs.drop at_).take f.size) : Nat) : Int) < 2 ^ (8 * f.size) := by exact_mod_cast e2
    rw [g2, Int.emod_eq_of_lt (by omega) e3] at e1
    omega
  · cases h
end Go.Proofs.Ytcboaonbfgjmgaa.op

/-
  Reading an instruction: what was written, and its beginnings.
-/
open Go.Proofs Go Go.Am
namespace Go.Proofs.Ytcboaonbfgjmgaa.op
set_option linter.unusedVariables false
set_option linter.unusedSimpArgs false
set_option maxRecDepth 100000

def vF (w : Int) : Fd := ⟨8, fitLo w, fitHi w⟩
def rdArms (bs : List Int) (w : Int) : Nat → Nat × Int → List (Int × Int) → List (Int × Int) × (Nat × Int)
  | 0, s, acc => (acc, s)
  | n + 1, s, acc => if s.2 ≠ 0 then (acc, s) else
    rdArms bs w n (rdS bs fLeap (rdS bs (vF w) s).2).2 (acc ++ [((rdS bs (vF w) s).1, (rdS bs fLeap (rdS bs (vF w) s).2).1)])
def rdFields (bs : List Int) : List Fd → Nat × Int → Int × Int × (Nat × Int)
  | [], s => (0, 0, s)
  | [f], s => ((rdS bs f s).1, 0, (rdS bs f s).2)
  | f :: g :: _, s => ((rdS bs f s).1, (rdS bs g (rdS bs f s).2).1, (rdS bs g (rdS bs f s).2).2)
abbrev Dat := Int × Int × Int × List (Int × Int)
/-- A switch's arms and its last place. -/
def decSw (bs : List Int) (op a : Int) (s : Nat × Int) : Dat × (Nat × Int) :=
  ((op, a, (rdS bs fLeap (rdArms bs (IntKind.u8.wrap a) (rdS bs fIx s).1.toNat (rdS bs fIx s).2 []).2).1, (rdArms bs (IntKind.u8.wrap a) (rdS bs fIx s).1.toNat (rdS bs fIx s).2 []).1),
    (rdS bs fLeap (rdArms bs (IntKind.u8.wrap a) (rdS bs fIx s).1.toNat (rdS bs fIx s).2 []).2).2)
def decX (bs : List Int) (at_ : Nat) : Dat × (Nat × Int) :=
  if bs.getD at_ 0 = 49 then decSw bs 49 (rdFields bs ((lay (bs.getD at_ 0)).getD []) (at_ + 1, 0)).1 (rdFields bs ((lay (bs.getD at_ 0)).getD []) (at_ + 1, 0)).2.2
  else ((bs.getD at_ 0, (rdFields bs ((lay (bs.getD at_ 0)).getD []) (at_ + 1, 0)).1, (rdFields bs ((lay (bs.getD at_ 0)).getD []) (at_ + 1, 0)).2.1, []), (rdFields bs ((lay (bs.getD at_ 0)).getD []) (at_ + 1, 0)).2.2)
def zDat : Dat := (0, 0, 0, [])
/-- The instruction at a place, the place behind it, or the error. -/
def decS (bs : List Int) (at_ : Nat) : Dat × (Nat × Int) :=
  if lay (bs.getD at_ 0) = none then (zDat, (0, 120)) else if (decX bs at_).2.2 ≠ 0 then (zDat, (0, (decX bs at_).2.2)) else decX bs at_
def In.dat (x : In) : Dat := (x.op, x.a, x.b, x.arms)

theorem goodF_ite {c : Prop} [Decidable c] {a b : Option (List Fd)} (ha : ∀ f ∈ a.getD [], goodF f) (hb : ∀ f ∈ b.getD [], goodF f) : ∀ f ∈ (if c then a else b).getD [], goodF f := by
  by_cases h : c
  · rw [if_pos h]; exact ha
  · rw [if_neg h]; exact hb
theorem goodF_lay (op : Int) : ∀ f ∈ (lay op).getD [], goodF f := by
  unfold lay lay0 lay1 lay2 lay3
  repeat' apply goodF_ite
  all_goals (intro f hf; simp only [Option.getD_some, Option.getD_none, List.mem_cons, List.not_mem_nil, or_false, or_self, false_or, fIx, fLeap, fWid] at hf)
  all_goals (subst hf)
  all_goals (first | exact ⟨by decide, .inl ⟨by decide, by decide, by decide⟩⟩ | exact ⟨by decide, .inr (.inl ⟨by decide, by decide, by decide⟩)⟩ | exact ⟨by decide, .inr (.inr ⟨by decide, by decide, by decide⟩)⟩)
theorem goodF_leap : goodF fLeap := ⟨by decide, .inl ⟨by decide, by decide, by decide⟩⟩
theorem goodF_ix : goodF fIx := ⟨by decide, .inl ⟨by decide, by decide, by decide⟩⟩
theorem goodF_v (w : Int) : goodF (vF w) := by
  refine ⟨by show 1 ≤ 8; omega, .inr (.inr ⟨rfl, ?_, ?_⟩)⟩
  · show _ ≤ fitLo w
    unfold fitLo
    repeat' split
    all_goals omega
  · show fitHi w ≤ _
    unfold fitHi
    repeat' split
    all_goals omega

theorem armOk_v (w : Int) (y : Int × Int) : armOk w y = ((vF w).may y.1 && fLeap.may y.2) := rfl

theorem rdS_fix' {bs pre post : List Int} {f : Fd} (hf : goodF f) {n : Int} (hm : f.may n = true) {p : Nat} (hp : pre.length = p) (hb : bs = pre ++ (fixS n f.size ++ post)) : rdS bs f (p, 0) = (n, p + f.size, 0) := by
  rw [hb, ← hp, ← List.append_assoc]
  exact rdS_fix hf hm

theorem rdArms_fix {bs post : List Int} {w : Int} : ∀ (arms acc : List (Int × Int)) (pre : List Int) (p : Nat), pre.length = p → arms.all (armOk w) = true → bs = pre ++ (armsB arms ++ post) → rdArms bs w arms.length (p, 0) acc = (acc ++ arms, (p + 12 * arms.length, 0))
  | [], acc, pre, p, hp, _, hb => by simp [rdArms]
  | y :: arms, acc, pre, p, hp, hall, hb => by
    rw [List.all_cons, armOk_v, Bool.and_eq_true, Bool.and_eq_true] at hall
    have hbb : bs = pre ++ (fixS y.1 (vF w).size ++ (fixS y.2 fLeap.size ++ (armsB arms ++ post))) := by
      rw [hb]; simp only [armsB, List.flatMap_cons, armB, List.append_assoc]; rfl
    have r1 := rdS_fix' (goodF_v w) hall.1.1 hp hbb
    have r2 := rdS_fix' (bs := bs) (pre := pre ++ fixS y.1 (vF w).size) (post := armsB arms ++ post) goodF_leap hall.1.2 (p := p + (vF w).size) (by rw [List.length_append, fixS_length, hp]) (by rw [hbb]; simp only [List.append_assoc])
    have ih := rdArms_fix (bs := bs) (post := post) (w := w) arms (acc ++ [y]) (pre ++ fixS y.1 (vF w).size ++ fixS y.2 fLeap.size) (p + (vF w).size + fLeap.size) (by rw [List.length_append, List.length_append, fixS_length, fixS_length, hp]) hall.2 (by rw [hbb]; simp only [List.append_assoc])
    rw [List.length_cons, rdArms, if_neg (by simp), r1]
    simp only
    rw [r2]
    simp only
    rw [ih]
    have e : p + (vF w).size + fLeap.size + 12 * arms.length = p + 12 * (arms.length + 1) := by show p + 8 + 4 + _ = _; omega
    rw [e, List.append_assoc]
    rfl

/-- What is so of an instruction. -/
theorem isS_parts {x : In} (h : isS x = true) : ∃ l, lay x.op = some l ∧ fldOk x 0 l = true ∧ (x.op = 49 → x.arms.length ≤ 65535 ∧ x.arms.all (armOk (IntKind.u8.wrap x.a)) = true ∧ fLeap.may x.b = true) ∧ (x.op ≠ 49 → x.arms = [] ∧ (l.length < 2 → x.b = 0) ∧ (l.length < 1 → x.a = 0)) := by
  unfold isS at h
  cases hl : lay x.op with
  | none => rw [hl] at h; simp at h
  | some l =>
    rw [hl] at h
    simp only [Option.isSome_some, Bool.true_and, Option.getD_some, Bool.and_eq_true] at h
    refine ⟨l, rfl, h.1, fun h49 => ?_, fun h49 => ?_⟩
    · have h2 := h.2
      rw [if_pos h49] at h2
      simp only [Bool.and_eq_true, decide_eq_true_eq] at h2
      exact ⟨h2.1.1, h2.1.2, by unfold Fd.may; exact decide_eq_true h2.2⟩
    · have h2 := h.2
      rw [if_neg h49] at h2
      simp only [Bool.and_eq_true, Bool.or_eq_true, decide_eq_true_eq] at h2
      exact ⟨List.length_eq_zero_iff.1 h2.1.1, fun hn => h2.1.2.resolve_left (by omega), fun hn => h2.2.resolve_left (by omega)⟩

theorem lay49 {l : List Fd} {op : Int} (h : lay op = some l) (h49 : op = 49) : l = [fWid] := by
  rw [h49] at h
  have : lay 49 = some [fWid] := rfl
  rw [this] at h
  cases h
  rfl

/-- What was written is read. -/
theorem dec_enc {x : In} (h : isS x = true) (pre more : List Int) : decS (pre ++ (encB x ++ more)) pre.length = (x.dat, (pre.length + (encB x).length, 0)) := by
  obtain ⟨l, hl, hfl, hsw, hno⟩ := isS_parts h
  have hgood := goodF_lay x.op
  rw [hl] at hgood
  simp only [Option.getD_some] at hgood
  have hlen2 := lay_length (op := x.op)
  rw [hl] at hlen2
  simp only [Option.getD_some] at hlen2
  obtain ⟨tail, htail⟩ : ∃ tail, tail = (if x.op = 49 then fixS x.arms.length 2 ++ armsB x.arms ++ fixS x.b 4 else []) := ⟨_, rfl⟩
  have hE : encB x = x.op :: (fldB x 0 l ++ tail) := by unfold encB; rw [hl, htail]; rfl
  obtain ⟨bs, hbs⟩ : ∃ bs, bs = pre ++ (encB x ++ more) := ⟨_, rfl⟩
  rw [← hbs]
  have hb : bs = (pre ++ [x.op]) ++ (fldB x 0 l ++ (tail ++ more)) := by rw [hbs, hE]; simp
  have hop : bs.getD pre.length 0 = x.op := by
    rw [hbs, hE, List.getD_eq_getElem?_getD, List.getElem?_append_right (Nat.le_refl _), Nat.sub_self]
    rfl
  have hpl : (pre ++ [x.op]).length = pre.length + 1 := by simp
  have hflds : rdFields bs l (pre.length + 1, 0) = (x.a, (if x.op = 49 then 0 else x.b), (pre.length + 1 + (fldB x 0 l).length, 0)) := by
    match l, hlen2 with
    | [], _ =>
      have h49 : x.op ≠ 49 := fun e => by have := lay49 hl e; cases this
      rw [if_neg h49, (hno h49).2.1 (by simp), (hno h49).2.2 (by simp)]
      rfl
    | [f], _ =>
      have hm : f.may x.a = true := by simpa [fldOk, In.num] using hfl
      have hr := rdS_fix' (bs := bs) (post := tail ++ more) (hgood f (by simp)) hm hpl (by rw [hb]; simp [fldB, In.num])
      have hb0 : (if x.op = 49 then 0 else x.b) = 0 := by
        by_cases h49 : x.op = 49
        · rw [if_pos h49]
        · rw [if_neg h49]; exact (hno h49).2.1 (by simp)
      rw [rdFields, hr, hb0]
      simp [fldB, fixS_length]
    | [f, g], _ =>
      have h49 : x.op ≠ 49 := fun e => by have := lay49 hl e; cases this
      have hm : f.may x.a = true ∧ g.may x.b = true := by simpa [fldOk, In.num] using hfl
      have hr := rdS_fix' (bs := bs) (post := fixS x.b g.size ++ (tail ++ more)) (hgood f (by simp)) hm.1 hpl (by rw [hb]; simp [fldB, In.num])
      have hr2 := rdS_fix' (bs := bs) (pre := pre ++ [x.op] ++ fixS x.a f.size) (post := tail ++ more) (hgood g (by simp)) hm.2 (p := pre.length + 1 + f.size) (by rw [List.length_append, hpl, fixS_length]) (by rw [hb]; simp [fldB, In.num])
      rw [rdFields, hr]
      simp only
      rw [hr2, if_neg h49]
      simp [fldB, fixS_length]
      omega
    | _ :: _ :: _ :: _, hh => exact absurd hh (by simp)
  have hX : decX bs pre.length = (x.dat, (pre.length + (encB x).length, 0)) := by
    unfold decX
    rw [hop, hl, Option.getD_some, hflds]
    by_cases h49 : x.op = 49
    · rw [if_pos h49]
      obtain ⟨s1, s2, s3⟩ := hsw h49
      simp only
      rw [if_pos h49] at htail
      obtain ⟨q, hq⟩ : ∃ q, q = pre.length + 1 + (fldB x 0 l).length := ⟨_, rfl⟩
      rw [← hq]
      have hpq : (pre ++ [x.op] ++ fldB x 0 l).length = q := by rw [List.length_append, hpl, hq]
      have c1 := rdS_fix' (bs := bs) (pre := pre ++ [x.op] ++ fldB x 0 l) (post := armsB x.arms ++ (fixS x.b 4 ++ more)) goodF_ix (n := (x.arms.length : Int)) (by unfold Fd.may; exact decide_eq_true ⟨by show (0 : Int) ≤ _; omega, by show _ ≤ (65535 : Int); omega⟩) hpq (by rw [hb, htail]; simp only [List.append_assoc]; rfl)
      have hp2 : (pre ++ [x.op] ++ fldB x 0 l ++ fixS x.arms.length 2).length = q + fIx.size := by rw [List.length_append, hpq, fixS_length]; rfl
      have c2 := rdArms_fix (bs := bs) (post := fixS x.b 4 ++ more) x.arms [] (pre ++ [x.op] ++ fldB x 0 l ++ fixS x.arms.length 2) (q + fIx.size) hp2 s2 (by rw [hb, htail]; simp only [List.append_assoc])
      have hp3 : (pre ++ [x.op] ++ fldB x 0 l ++ fixS x.arms.length 2 ++ armsB x.arms).length = q + fIx.size + 12 * x.arms.length := by rw [List.length_append, hp2, armsB_length]
      have c3 := rdS_fix' (bs := bs) (post := more) goodF_leap s3 hp3 (by rw [hb, htail]; simp only [List.append_assoc]; rfl)
      unfold decSw
      rw [c1]
      simp only [Int.toNat_natCast]
      rw [c2]
      simp only
      rw [c3]
      refine Prod.ext ?_ (Prod.ext ?_ rfl)
      · show (49, x.a, x.b, [] ++ x.arms) = x.dat
        rw [In.dat, h49, List.nil_append]
      · show q + 2 + 12 * x.arms.length + 4 = _
        rw [hE, htail, hq]
        simp only [List.length_cons, List.length_append, fixS_length, armsB_length]
        omega
    · rw [if_neg h49]
      simp only [if_neg h49] at htail ⊢
      refine Prod.ext ?_ (Prod.ext ?_ rfl)
      · show (x.op, x.a, x.b, []) = x.dat
        rw [In.dat, (hno h49).1]
      · show pre.length + 1 + (fldB x 0 l).length = _
        rw [hE, htail]
        simp only [List.length_cons, List.append_nil]
        omega
  unfold decS
  rw [hop, hl, hX, if_neg (by simp), if_neg (by simp)]
end Go.Proofs.Ytcboaonbfgjmgaa.op

/-
  Reading an instruction: Wide, read.
-/
open Go.Proofs Go Go.Am
namespace Go.Proofs.Ytcboaonbfgjmgaa.op
open Go.Proofs.Ytcboaonbfgjmgaa.vb Go.Proofs.Ytcboaonbfgjmgaa.vr Go.Proofs.Ytcboaonbfgjmgaa.vw Go.Proofs.Ytcboaonbfgjmgaa.vd
set_option linter.unusedVariables false
set_option linter.unusedSimpArgs false
set_option maxRecDepth 100000

variable {E : Env} {w0 : World}

/-- Bytes that can be read. -/
def CodeAt (E : Env) (X : Nat → Prop) (H : AHeap) (v : AV) (bs : List Int) : Prop :=
  bs.length < 2 ^ 48 ∧ (∀ b ∈ bs, Byte b) ∧ ((v = .nilSlc ∧ bs = []) ∨ ∃ o i cap ex sz, v = .slc o i bs.length cap ex sz ∧
    ((∃ b cs, o = .old b ∧ (bs = [] ∨ E b = some cs) ∧ ∀ j x, bs[j]? = some x → cs[i + j]? = some (.int .u8 x)) ∨ (∃ k all pre, o = .new k ∧ X k ∧ H.get k = some (.cells all true pre) ∧ ∀ j x, bs[j]? = some x → all[i + j]? = some (.int .u8 x))))
section
variable {H H' : AHeap} {X Y : Nat → Prop} {v cv fv : AV} {bs : List Int} {f : Fd}
theorem CodeAt.keep (h : CodeAt E X H v bs) (hk : Keeps X H H') : CodeAt E X H' v bs := by
  obtain ⟨h0, h1, h⟩ := h
  refine ⟨h0, h1, ?_⟩
  rcases h with h | ⟨o, i, cap, ex, sz, e, h | ⟨k, all, pre, a, b, c, d⟩⟩
  · exact .inl h
  · exact .inr ⟨o, i, cap, ex, sz, e, .inl h⟩
  · exact .inr ⟨o, i, cap, ex, sz, e, .inr ⟨k, all, pre, a, b, hk _ _ _ b c, d⟩⟩
theorem CodeAt.less (h : CodeAt E X H v bs) (F : Fine H) (hxy : ∀ k, k < H.next → X k → Y k) : CodeAt E Y H v bs := by
  obtain ⟨h0, h1, h⟩ := h
  refine ⟨h0, h1, ?_⟩
  rcases h with h | ⟨o, i, cap, ex, sz, e, h | ⟨k, all, pre, a, b, c, d⟩⟩
  · exact .inl h
  · exact .inr ⟨o, i, cap, ex, sz, e, .inl h⟩
  · exact .inr ⟨o, i, cap, ex, sz, e, .inr ⟨k, all, pre, a, hxy _ (F.lt c) b, c, d⟩⟩
theorem CodeAt.len (h : CodeAt E X H v bs) (H2 : AHeap) : lenV Try.prog H2 27 v = some (.int .i64 bs.length) := by
  obtain ⟨_, _, h⟩ := h
  rcases h with ⟨rfl, rfl⟩ | ⟨o, i, cap, ex, sz, rfl, _⟩
  · exact len0_27 _
  · exact len_27 ..
theorem CodeAt.at (h : CodeAt E X H v bs) {j : Nat} {x : Int} (hj : bs[j]? = some x) : ∃ o i, indexAtA Try.prog 27 v (.int .i64 (j : Int)) = some (.ptr o i) ∧ loadCell E H o i = some (.int .u8 x) := by
  have hlt : j < bs.length := (List.getElem?_eq_some_iff.1 hj).1
  obtain ⟨_, _, h⟩ := h
  rcases h with ⟨rfl, rfl⟩ | ⟨o, i, cap, ex, sz, rfl, ⟨b, cs, rfl, hE, hc⟩ | ⟨k, all, pre, rfl, hx, hg, hc⟩⟩
  · simp at hj
  · have hE : E b = some cs := hE.resolve_left (fun e => by rw [e] at hlt; simp at hlt)
    refine ⟨.old b, i + j, ?_, ?_⟩
    · rw [ix_27, if_pos ⟨by omega, by omega⟩]; simp
    · simp only [loadCell, cellsOf, hE]; exact hc j x hj
  · refine ⟨.new k, i + j, ?_, ?_⟩
    · rw [ix_27, if_pos ⟨by omega, by omega⟩]; simp
    · rw [loadCell_new E hg]; exact hc j x hj
theorem Bs.code {k : Nat} (h : Bs H v bs k) (hX : X k) (hb : ∀ b ∈ bs, Byte b) (hl : bs.length < 2 ^ 48) : CodeAt E X H v bs := by
  refine ⟨hl, hb, ?_⟩
  rcases h with h | ⟨cap, ex, all, pre, e, g, ht, hc⟩
  · exact .inl h
  · refine .inr ⟨_, _, _, _, _, e, .inr ⟨k, all, pre, rfl, hX, g, fun j x hj => ?_⟩⟩
    have hlt : j < bs.length := (List.getElem?_eq_some_iff.1 hj).1
    have e := congrArg (fun l => l[j]?) ht
    simp only [bys, List.getElem?_map, hj, List.getElem?_take, if_pos hlt, Option.map_some] at e
    rw [Nat.zero_add]; exact e

theorem leN_snoc : ∀ (l : List Int) (b : Int), leN (l ++ [b]) = leN l + b.toNat * 2 ^ (8 * l.length)
  | [], b => by simp [leN]
  | a :: l, b => by
    have hp : 2 ^ (8 * (l.length + 1)) = 256 * 2 ^ (8 * l.length) := by rw [show 8 * (l.length + 1) = 8 + 8 * l.length by omega, Nat.pow_add]
    rw [List.cons_append, leN, leN, leN_snoc l b, List.length_cons, hp, Nat.mul_add, ← Nat.add_assoc]
    congr 1
    rw [Nat.mul_left_comm]

theorem wide_ok (hc : CodeAt E X H cv bs) {p s : Nat} (hp : p ≤ bs.length) (h1 : 1 ≤ s) (h8 : s ≤ 8) : FnX Try.prog E w0 67 [cv, .int .i64 (p : Int), .int .i64 (s : Int)] H fun v H' => H' = H ∧
    v = if bs.length < p + s then .tup [.int .u64 0, .int .i64 0, .int .i64 10] else .tup [.int .u64 (leN ((bs.drop p).take s) : Nat), .int .i64 ((p + s : Nat) : Int), .int .i64 0] := by
  refine V67_ok ?_
  unfold V67
  have hl := hc.1
  have c1 : decide ((s : Int) < 1) = false := decide_eq_false (by omega)
  have c2 : decide ((s : Int) > 8) = false := decide_eq_false (by omega)
  have c3 : decide ((p : Int) < 0) = false := decide_eq_false (by omega)
  have c4 : decide ((p : Int) > bs.length) = false := decide_eq_false (by omega)
  simp only [bin_lss, bin_gtr, oS, c1, c2, c3, cF, hc.len, c4]
  unfold J67_0
  simp only [cF, hc.len, oS, bin_sub, bin_gtr]
  rw [wrap_i64 (by omega) (by omega)]
  by_cases hs : bs.length < p + s
  · rw [dT (show (s : Int) > (bs.length : Int) - (p : Int) by omega), cT, if_pos hs]
    exact ⟨by trivial, by trivial⟩
  rw [dF (show ¬ (s : Int) > (bs.length : Int) - (p : Int) by omega), cF, if_neg hs]
  refine loop67_0 (I := fun n t0 t1 t2 t9 t29 t30 H' => H' = H ∧ cv = t0 ∧ t1 = .int .i64 (p : Int) ∧ t2 = .int .i64 (s : Int) ∧ t29 = .int .i64 (s : Int) ∧ ∃ i : Nat, t30 = .int .i64 (i : Int) ∧ i + n = s ∧ t9 = .int .u64 ((leN ((bs.drop p).take i) : Nat) : Int)) ?_ (n := s)
    ⟨rfl, rfl, rfl, rfl, rfl, 0, rfl, by omega, rfl⟩
  rintro n _ _ _ _ _ _ H' ⟨rfl, rfl, rfl, rfl, rfl, i, rfl, hi, rfl⟩
  intros
  unfold B67_0
  rw [bin_lss, oS, condW_bool]
  refine ⟨fun hlt => ?_, fun hge => ?_⟩
  · have hlt : i < s := by have := of_decide_eq_true hlt; omega
    have hlt2 : p + i < bs.length := by omega
    obtain ⟨x, hx⟩ : ∃ x, x = bs[p + i] := ⟨_, rfl⟩
    have hj : bs[p + i]? = some x := by rw [List.getElem?_eq_getElem hlt2, hx]
    obtain ⟨o, q, e1, e2⟩ := hc.at hj
    obtain ⟨b0, b1⟩ := hc.2.1 x (by rw [hx]; exact List.getElem_mem _)
    obtain ⟨xn, hxn⟩ : ∃ xn : Nat, x = (xn : Int) := ⟨x.toNat, by omega⟩
    have hbs : ∀ b ∈ (bs.drop p).take i, Byte b := fun b hb' => hc.2.1 b (List.mem_of_mem_drop (List.mem_of_mem_take hb'))
    have hlen : ((bs.drop p).take i).length = i := by rw [List.length_take, List.length_drop]; omega
    have e3 := leN_lt hbs
    rw [hlen] at e3
    have htk : (bs.drop p).take (i + 1) = (bs.drop p).take i ++ [x] := by
      rw [List.take_add_one, List.getElem?_drop, hj]; rfl
    have hsn := leN_snoc ((bs.drop p).take i) x
    rw [← htk, hlen] at hsn
    have e4 := leN_lt (l := (bs.drop p).take (i + 1)) fun b hb' => hc.2.1 b (List.mem_of_mem_drop (List.mem_of_mem_take hb'))
    rw [show ((bs.drop p).take (i + 1)).length = i + 1 by rw [List.length_take, List.length_drop]; omega] at e4
    have h3 : 2 ^ (8 * (i + 1)) ≤ 2 ^ 64 := Nat.pow_le_pow_right (by decide) (by omega)
    have h4 : 2 ^ (8 * i) ≤ 2 ^ 64 := Nat.pow_le_pow_right (by decide) (by omega)
    have hxt : x.toNat = xn := by omega
    rw [hxt] at hsn
    rw [bin_add, oS, wrap_i64 (by omega) (by omega), show (p : Int) + (i : Int) = ((p + i : Nat) : Int) by omega, e1, oS, ld_5, e2, oS, cv_5_114, oS, hxn, u64_nat (by omega), bin_mul, oS, wrap_i64 (by omega) (by omega),
      show 8 * (i : Int) = ((8 * i : Nat) : Int) by omega, shl_nat (by omega) (by omega), oS, or_nat (by omega) (by omega), oS, or_add e3, bin_add, oS, wrap_i64 (by omega) (by omega)]
    exact ⟨n - 1, by omega, rfl, rfl, rfl, rfl, rfl, rfl, i + 1, by simp, by omega, by simp only [hsn]; rfl⟩
  · have hge : ¬ (i : Int) < s := of_decide_eq_false hge
    obtain rfl : i = s := by omega
    rw [bin_add, oS, wrap_i64 (by omega) (by omega)]
    exact ⟨rfl, by rw [show (p : Int) + (i : Int) = ((p + i : Nat) : Int) by omega]⟩

/-- A reader. -/
def RdAt (H : AHeap) (k : Nat) (cv : AV) (s : Nat × Int) : Prop := ∃ pre, H.get k = some (.cells [cv, .int .i64 (s.1 : Int), .int .i64 s.2] true pre)
theorem RdAt.loads {k : Nat} {s : Nat × Int} (h : RdAt H k cv s) : loadV Try.prog E H 27 (.ptr (.new k) 0) = some cv ∧ loadV Try.prog E H 3 (.ptr (.new k) 1) = some (.int .i64 (s.1 : Int)) ∧ loadV Try.prog E H 28 (.ptr (.new k) 2) = some (.int .i64 s.2) := by
  obtain ⟨pre, hg⟩ := h
  exact ⟨by rw [ld_27, loadCell_new E hg]; rfl, by rw [ld_3, loadCell_new E hg]; rfl, by rw [ld_28, loadCell_new E hg]; rfl⟩
theorem RdAt.keep {k : Nat} {s : Nat × Int} (h : RdAt H k cv s) (hk : Keeps X H H') (hx : X k) : RdAt H' k cv s := by
  obtain ⟨pre, hg⟩ := h
  exact ⟨pre, hk _ _ _ hx hg⟩
theorem sz_28 {n : Int} : sizeA Try.prog 28 = some (AV.int .i64 n).cells.length := by kernel_rfl
theorem sz_3 {n : Int} : sizeA Try.prog 3 = some (AV.int .i64 n).cells.length := by kernel_rfl
theorem shl_2 (x y : Int) : binA Try.prog .shl 2 (.int .i64 x) (.int .i64 y) = if y < 0 then none else some (.int .i64 (IntKind.i64.wrap (x * 2 ^ (min y.toNat 64)))) := by kernel_rfl

theorem rdS_le {bs : List Int} {f : Fd} {s : Nat × Int} (h : s.1 ≤ bs.length) : (rdS bs f s).2.1 ≤ bs.length := by
  unfold rdS
  split
  · exact h
  split
  · exact h
  · split
    · simp only; omega
    · exact h
theorem rdS_i64 {bs : List Int} {f : Fd} {s : Nat × Int} (hf : I64 f.lo ∧ I64 f.hi) : I64 (rdS bs f s).1 := by
  have h0 : I64 0 := ⟨by decide, by decide⟩
  have hm : ∀ n, f.may n = true → I64 n := fun n hm => by
    have := of_decide_eq_true hm
    exact ⟨Int.le_trans hf.1.1 this.1, Int.le_trans this.2 hf.2.2⟩
  unfold rdS
  split
  · exact h0
  split
  · exact h0
  · split
    · rename_i n hn
      refine hm n ?_
      unfold rdN at hn
      simp only at hn
      generalize (if f.may (IntKind.i64.wrap (leN ((bs.drop s.1).take f.size) : Nat)) = false ∧ f.size < 8 then IntKind.i64.wrap (leN ((bs.drop s.1).take f.size) : Nat) - 2 ^ (8 * f.size) else IntKind.i64.wrap (leN ((bs.drop s.1).take f.size) : Nat)) = m at hn
      by_cases hm' : f.may m = true
      · rw [if_pos hm'] at hn
        rw [← Option.some.inj hn]; exact hm'
      · rw [if_neg hm'] at hn; cases hn
    · exact h0

theorem i64_of_wrap (u : Int) : I64 (IntKind.i64.wrap u) := by
  unfold I64
  simp only [IntKind.wrap, IntKind.bits, IntKind.signed]; simp
  split <;> omega

theorem read_ok (F : Fine H) {kr : Nat} (hc : CodeAt E (fun j => j ≠ kr) H cv bs) {s : Nat × Int} (hr : RdAt H kr cv s) (hs : s.1 ≤ bs.length) (h1 : 1 ≤ f.size) (h8 : f.size ≤ 8) (hm : MayAt (fun j => j ≠ kr) H fv f.lo f.hi) :
    FnX Try.prog E w0 44 [.ptr (.new kr) 0, .agg [.int .i64 (f.size : Int), fv]] H fun v H' => v = .int .i64 (rdS bs f s).1 ∧ RdAt H' kr cv (rdS bs f s).2 ∧ Keeps (fun j => j ≠ kr) H H' := by
  refine V44_ok ?_
  unfold V44
  obtain ⟨a1, a2, a3, F1⟩ := F.newCells [AV.int .i64 (f.size : Int), fv]
  have hcl : AV.cells (.agg [.int .i64 (f.size : Int), fv]) = [.int .i64 (f.size : Int), fv] := rfl
  have hkr : kr < H.next := by obtain ⟨pre, hg⟩ := hr; exact F.lt hg
  rw [wW, hcl]
  generalize hH1 : newCells H [AV.int .i64 (f.size : Int), fv] = H1 at *
  have hr1 : RdAt H1 kr cv s := by obtain ⟨pre, hg⟩ := hr; exact ⟨pre, a2 _ _ _ hg⟩
  obtain ⟨r0, r1, r2⟩ := hr1.loads (E := E)
  have b0 : loadV Try.prog E H1 3 (.ptr (.new H.next) 0) = some (.int .i64 (f.size : Int)) := by rw [ld_3, loadCell_new E a1]; rfl
  have b1 : loadV Try.prog E H1 79 (.ptr (.new H.next) 1) = some fv := by rw [ld_79, loadCell_new E a1]; rfl
  simp only [nP, oS, fa_88_0, fa_88_1, fa_88_2, Nat.zero_add, r0, r1, r2, fa_81_0, fa_81_1, b0, b1, true_and, nev_28]
  have hk1 : Keeps (fun j => j ≠ kr) H H1 := Keeps.of a2
  by_cases he : s.2 = 0
  case neg =>
    have : (s.2 != 0) = true := by simp [he]
    rw [this, cT]
    unfold rdS
    rw [if_pos he]
    exact ⟨rfl, hr1, hk1⟩
  have : (s.2 != 0) = false := by simp [he]
  rw [this, cF]
  -- an error, and where it is kept
  have err : ∀ (c : Int) {H2 : AHeap}, H2 = H1 → (rdS bs f s) = (0, s.1, c) → storeW Try.prog H2 28 (.ptr (.new kr) 2) (.int .i64 c) fun _ H' => AV.int .i64 0 = .int .i64 (rdS bs f s).1 ∧ RdAt H' kr cv (rdS bs f s).2 ∧ Keeps (fun j => j ≠ kr) H H' := by
    intro c H2 e2 hrd
    subst e2
    obtain ⟨pre, g1⟩ := hr1
    obtain ⟨H3, p1, p2, p3, p4, F3⟩ := F1.store g1 (n := 2) (x := .int .i64 c) (by simp) rfl
    refine storesW sz_28 p1 ?_
    rw [hrd]
    exact ⟨rfl, ⟨[], p2⟩, Keeps.trans hk1 (Keeps.but p3 fun _ h => h) F fun _ _ h => h⟩
  have hs' : rdS bs f s = if bs.length < s.1 + f.size then ((0 : Int), s.1, (10 : Int)) else match rdN f (leN ((bs.drop s.1).take f.size)) with
      | some n => (n, s.1 + f.size, 0)
      | none => (0, s.1, 120) := by
    unfold rdS
    rw [if_neg (by simp [he])]
    all_goals rfl
  refine (wide_ok (hc.keep hk1) hs h1 h8).use ?_
  rintro v H2 ⟨e2, rfl⟩ _ _
  have e3 := e2.symm
  clear e2
  subst e3
  by_cases hlen : bs.length < s.1 + f.size
  · rw [if_pos hlen] at hs' ⊢
    simp only [ex0, ex1, ex2, oS, nev_28]
    rw [show ((10 : Int) != 0) = true from rfl, cT]
    exact err 10 rfl hs'
  rw [if_neg hlen] at hs' ⊢
  obtain ⟨u, hu⟩ : ∃ u, u = leN ((bs.drop s.1).take f.size) := ⟨_, rfl⟩
  rw [← hu] at hs' ⊢
  simp only [ex0, ex1, ex2, oS, nev_28, cv_114_2]
  rw [show ((0 : Int) != 0) = false from rfl, cF]
  simp only [b0, b1, oS]
  obtain ⟨n, hn⟩ : ∃ n, n = IntKind.i64.wrap (u : Int) := ⟨_, rfl⟩
  have hni : I64 n := by rw [hn]; exact i64_of_wrap _
  rw [← hn]
  refine may_ok (hm.keep hk1) hni ?_
  have hmay : ∀ m, decide (f.lo ≤ m ∧ m ≤ f.hi) = f.may m := fun m => rfl
  rw [hmay]
  -- the end
  have join : ∀ n' : Int, I64 n' → rdN f u = (if f.may n' = true then some n' else none) → J44_0 E w0 (fun v H' => v = .int .i64 (rdS bs f s).1 ∧ RdAt H' kr cv (rdS bs f s).2 ∧ Keeps (fun j => j ≠ kr) H H') (.ptr (.new kr) 0) (.ptr (.new H.next) 0) (.int .i64 ((s.1 + f.size : Nat) : Int)) (.int .i64 n') H1 := by
    intro n' hi' hrd
    unfold J44_0
    simp only [fa_81_1, oS, Nat.zero_add, b1]
    refine may_ok (hm.keep hk1) hi' ?_
    rw [hmay]
    simp only [un_not, oS, nP, fa_88_1, fa_88_2, Nat.zero_add]
    rw [hrd] at hs'
    cases hm' : f.may n' with
    | false =>
      rw [hm'] at hs'
      rw [Bool.not_false, cT]
      exact err 120 rfl hs'
    | true =>
      rw [hm'] at hs'
      rw [Bool.not_true, cF]
      obtain ⟨pre, g1⟩ := hr1
      obtain ⟨H3, p1, p2, p3, p4, F3⟩ := F1.store g1 (n := 1) (x := .int .i64 ((s.1 + f.size : Nat) : Int)) (by simp) rfl
      refine storesW sz_3 p1 ?_
      rw [hs']
      exact ⟨rfl, ⟨[], by rw [p2, he]; rfl⟩, Keeps.trans hk1 (Keeps.but p3 fun _ h => h) F fun _ _ h => h⟩
  have hbs : ∀ b ∈ (bs.drop s.1).take f.size, Byte b := fun b hb' => hc.2.1 b (List.mem_of_mem_drop (List.mem_of_mem_take hb'))
  have hul := leN_lt hbs
  rw [← hu, show ((bs.drop s.1).take f.size).length = f.size by rw [List.length_take, List.length_drop]; omega] at hul
  rw [un_not, oS]
  cases hm1 : f.may n with
  | true =>
    simp only [Bool.not_true, wB, bft, vF, oS, pB, Bool.false_eq_true, if_false, cF]
    refine join n hni ?_
    unfold rdN
    simp only [← hn, hm1, Bool.true_eq_false, false_and, if_false]
  | false =>
    simp only [Bool.not_false, wB, btt, vT, oS, pB, if_true, bin_lss, b0]
    by_cases h7 : f.size < 8
    · rw [dT (show (f.size : Int) < 8 by omega), cT, bin_mul, oS, wrap_i64 (by omega) (by omega), shl_2, if_neg (by omega), oS, show (8 * (f.size : Int)).toNat = 8 * f.size by omega, Nat.min_eq_left (by omega), Int.one_mul, bin_sub, oS]
      have hle : 2 ^ (8 * f.size) ≤ 2 ^ 56 := Nat.pow_le_pow_right (by decide) (by omega)
      obtain ⟨M, hM⟩ : ∃ M : Nat, M = 2 ^ (8 * f.size) := ⟨_, rfl⟩
      have hMi : (2 : Int) ^ (8 * f.size) = (M : Int) := by rw [hM]; simp
      rw [← hM] at hle hul
      have hnu : n = (u : Int) := by rw [hn]; exact wrap_i64 (by omega) (by omega)
      rw [hMi, wrap_i64 (n := (M : Int)) (by omega) (by omega), wrap_i64 (by omega) (by omega)]
      refine join (n - M) ⟨by omega, by omega⟩ ?_
      unfold rdN
      simp only [← hn, hm1, hMi, true_and, if_pos h7]
    · rw [dF (show ¬ (f.size : Int) < 8 by omega), cF]
      refine join n hni ?_
      unfold rdN
      simp only [← hn, hm1, true_and, if_neg h7]
end
end Go.Proofs.Ytcboaonbfgjmgaa.op

/-
  Reading an instruction: two fields, laid out in any order.
-/
open Go.Proofs Go Go.Am
namespace Go.Proofs.Ytcboaonbfgjmgaa.op
open Go.Proofs.Ytcboaonbfgjmgaa.vb Go.Proofs.Ytcboaonbfgjmgaa.vw
set_option linter.unusedVariables false
set_option linter.unusedSimpArgs false
set_option maxRecDepth 100000

variable {E : Env} {w0 : World}

def Free (H0 : AHeap) (b7 b8 : Option (Nat × List AV)) (j : Nat) : Prop := H0.next ≤ j ∧ (∀ k cs, b7 = some (k, cs) → j ≠ k) ∧ ∀ k cs, b8 = some (k, cs) → j ≠ k
/-- What is so while they are laid out. -/
structure St (H0 H : AHeap) (w : Int) (m0 m5 : Option AV) (b7 b8 : Option (Nat × List AV)) : Prop where
  fine : Fine H
  le : H0.next ≤ H.next
  stays : Stays H0 H
  hm0 : ∀ fv, m0 = some fv → MayAt (Free H0 b7 b8) H fv 0 4294967295
  hm5 : ∀ fv, m5 = some fv → MayAt (Free H0 b7 b8) H fv (fitLo w) (fitHi w)
  h7 : ∀ k cs, b7 = some (k, cs) → H0.next ≤ k ∧ cs.length = 2 ∧ ∃ pre, H.get k = some (.cells cs true pre)
  h8 : ∀ k cs, b8 = some (k, cs) → H0.next ≤ k ∧ cs.length = 2 ∧ ∃ pre, H.get k = some (.cells cs true pre)
  ne : ∀ k cs k' cs', b7 = some (k, cs) → b8 = some (k', cs') → k ≠ k'
  old : Fine H0

section
variable {H0 H : AHeap} {w : Int} {m0 m5 : Option AV} {b7 b8 : Option (Nat × List AV)} {K : AV → AHeap → Prop}
theorem St.free (S : St H0 H w m0 m5 b7 b8) {j : Nat} (h : H.next ≤ j) : Free H0 b7 b8 j := by
  have := S.le
  refine ⟨by omega, fun k cs e => ?_, fun k cs e => ?_⟩
  · obtain ⟨_, _, pre, g⟩ := S.h7 k cs e
    have := S.fine.lt g; omega
  · obtain ⟨_, _, pre, g⟩ := S.h8 k cs e
    have := S.fine.lt g; omega
theorem St.begin (F : Fine H0) : St H0 H0 w none none none none where
  fine := F
  le := Nat.le_refl _
  stays := fun _ _ _ h => h
  hm0 := fun _ e => by cases e
  hm5 := fun _ e => by cases e
  h7 := fun _ _ e => by cases e
  h8 := fun _ _ e => by cases e
  ne := fun _ _ _ _ e => by cases e
  old := F
theorem St.call0 (S : St H0 H w none m5 b7 b8) (hK : ∀ fv H', St H0 H' w (some fv) m5 b7 b8 → K fv H') : FnX Try.prog E w0 45 [.int .i64 0, .int .i64 4294967295] H K := by
  refine (between_ok S.fine).use ?_
  rintro v H1 ⟨m, s⟩ F1 n1
  refine hK v H1 ⟨F1, Nat.le_trans S.le n1, stays_trans S.stays s, fun fv e => ?_, fun fv e => (S.hm5 fv e).keep (Keeps.of s), fun k cs e => ?_, fun k cs e => ?_, S.ne, S.old⟩
  · cases e
    exact m.less F1 fun j _ h => S.free h
  · obtain ⟨a, b, pre, g⟩ := S.h7 k cs e
    exact ⟨a, b, pre, s _ _ _ g⟩
  · obtain ⟨a, b, pre, g⟩ := S.h8 k cs e
    exact ⟨a, b, pre, s _ _ _ g⟩
theorem St.call5 (S : St H0 H w m0 none b7 b8) (hK : ∀ fv H', St H0 H' w m0 (some fv) b7 b8 → K fv H') : FnX Try.prog E w0 46 [.int .u8 w] H K := by
  refine (fitsF_ok S.fine).use ?_
  rintro v H1 ⟨m, s⟩ F1 n1
  refine hK v H1 ⟨F1, Nat.le_trans S.le n1, stays_trans S.stays s, fun fv e => (S.hm0 fv e).keep (Keeps.of s), fun fv e => ?_, fun k cs e => ?_, fun k cs e => ?_, S.ne, S.old⟩
  · cases e
    exact m.less F1 fun j _ h => S.free h
  · obtain ⟨a, b, pre, g⟩ := S.h7 k cs e
    exact ⟨a, b, pre, s _ _ _ g⟩
  · obtain ⟨a, b, pre, g⟩ := S.h8 k cs e
    exact ⟨a, b, pre, s _ _ _ g⟩
theorem St.alloc7 (S : St H0 H w m0 m5 none b8) (hK : ∀ k H', St H0 H' w m0 m5 (some (k, [.int .i64 0, .nilFn])) b8 → K (.ptr (.new k) 0) H') : optW (zeroOf Try.prog 81) fun z => withW (.ptr (.new H.next) 0) (newCells H (AV.cells z)) K := by
  rw [zero_81, oS, wW, zero81]
  obtain ⟨a1, a2, a3, F1⟩ := S.fine.newCells [AV.int .i64 0, .nilFn]
  have hl := S.le
  have fr : ∀ j, j < H.next → Free H0 none b8 j → Free H0 (some (H.next, [.int .i64 0, .nilFn])) b8 j := fun j hj h => ⟨h.1, fun k cs e => by cases e; omega, h.2.2⟩
  refine hK _ _ ⟨F1, by omega, stays_trans S.stays a2, fun fv e => ((S.hm0 fv e).less S.fine fr).keep (Keeps.of a2), fun fv e => ((S.hm5 fv e).less S.fine fr).keep (Keeps.of a2), fun k cs e => ?_, fun k cs e => ?_, fun k cs k' cs' e e' => ?_, S.old⟩
  · cases e
    exact ⟨hl, rfl, _, a1⟩
  · obtain ⟨a, b, pre, g⟩ := S.h8 k cs e
    exact ⟨a, b, pre, a2 _ _ _ g⟩
  · cases e
    obtain ⟨a, b, pre, g⟩ := S.h8 k' cs' e'
    have := S.fine.lt g; omega
theorem St.alloc8 (S : St H0 H w m0 m5 b7 none) (hK : ∀ k H', St H0 H' w m0 m5 b7 (some (k, [.int .i64 0, .nilFn])) → K (.ptr (.new k) 0) H') : optW (zeroOf Try.prog 81) fun z => withW (.ptr (.new H.next) 0) (newCells H (AV.cells z)) K := by
  rw [zero_81, oS, wW, zero81]
  obtain ⟨a1, a2, a3, F1⟩ := S.fine.newCells [AV.int .i64 0, .nilFn]
  have hl := S.le
  have fr : ∀ j, j < H.next → Free H0 b7 none j → Free H0 b7 (some (H.next, [.int .i64 0, .nilFn])) j := fun j hj h => ⟨h.1, h.2.1, fun k cs e => by cases e; omega⟩
  refine hK _ _ ⟨F1, by omega, stays_trans S.stays a2, fun fv e => ((S.hm0 fv e).less S.fine fr).keep (Keeps.of a2), fun fv e => ((S.hm5 fv e).less S.fine fr).keep (Keeps.of a2), fun k cs e => ?_, fun k cs e => ?_, fun k cs k' cs' e e' => ?_, S.old⟩
  · obtain ⟨a, b, pre, g⟩ := S.h7 k cs e
    exact ⟨a, b, pre, a2 _ _ _ g⟩
  · cases e
    exact ⟨hl, rfl, _, a1⟩
  · cases e'
    obtain ⟨a, b, pre, g⟩ := S.h7 k cs e
    have := S.fine.lt g; omega
theorem St.store7 {fv : AV} {k7 : Nat} {cs : List AV} (S : St H0 H w (some fv) m5 (some (k7, cs)) b8) (hK : ∀ v H', St H0 H' w (some fv) m5 (some (k7, [.int .i64 4, fv])) b8 → K v H') : storeW Try.prog H 81 (.ptr (.new k7) 0) (.agg [.int .i64 4, fv]) K := by
  obtain ⟨a, b, pre, g⟩ := S.h7 k7 cs rfl
  obtain ⟨H2, c1, c2, c3, c4, F2⟩ := S.fine.stores g (n := 0) (vs := [.int .i64 4, fv]) (by simp) (by simp [b]) (two_scalar (S.hm0 fv rfl).scalar)
  rw [setMany_all (by rw [b]; rfl)] at c2
  refine storesW sz_81 c1 ?_
  have hl := S.le
  have fr : ∀ j, j < H.next → Free H0 (some (k7, cs)) b8 j → Free H0 (some (k7, [.int .i64 4, fv])) b8 j := fun j hj h => ⟨h.1, fun k cs' e => by cases e; exact h.2.1 _ _ rfl, h.2.2⟩
  have kb : Keeps (Free H0 (some (k7, [.int .i64 4, fv])) b8) H H2 := Keeps.but c3 fun j h => h.2.1 _ _ rfl
  refine hK _ _ ⟨F2, by omega, fun k al pr hk => c3 _ _ _ (fun e => ?_) (S.stays _ _ _ hk), fun f e => ((S.hm0 f e).less S.fine fr).keep kb, fun f e => ((S.hm5 f e).less S.fine fr).keep kb, fun k cs' e => ?_, fun k cs' e => ?_, fun k cs1 k' cs2 e e' => ?_, S.old⟩
  · have := S.old.lt hk; omega
  · cases e
    exact ⟨a, rfl, _, c2⟩
  · obtain ⟨a', b', pre', g'⟩ := S.h8 k cs' e
    exact ⟨a', b', pre', c3 _ _ _ (Ne.symm (S.ne _ _ _ _ rfl e)) g'⟩
  · cases e
    exact S.ne _ _ _ _ rfl e'
theorem St.store8 {fv : AV} {k8 : Nat} {cs : List AV} (S : St H0 H w m0 (some fv) b7 (some (k8, cs))) (hK : ∀ v H', St H0 H' w m0 (some fv) b7 (some (k8, [.int .i64 8, fv])) → K v H') : storeW Try.prog H 81 (.ptr (.new k8) 0) (.agg [.int .i64 8, fv]) K := by
  obtain ⟨a, b, pre, g⟩ := S.h8 k8 cs rfl
  obtain ⟨H2, c1, c2, c3, c4, F2⟩ := S.fine.stores g (n := 0) (vs := [.int .i64 8, fv]) (by simp) (by simp [b]) (two_scalar (S.hm5 fv rfl).scalar)
  rw [setMany_all (by rw [b]; rfl)] at c2
  refine storesW sz_81 c1 ?_
  have hl := S.le
  have fr : ∀ j, j < H.next → Free H0 b7 (some (k8, cs)) j → Free H0 b7 (some (k8, [.int .i64 8, fv])) j := fun j hj h => ⟨h.1, h.2.1, fun k cs' e => by cases e; exact h.2.2 _ _ rfl⟩
  have kb : Keeps (Free H0 b7 (some (k8, [.int .i64 8, fv]))) H H2 := Keeps.but c3 fun j h => h.2.2 _ _ rfl
  refine hK _ _ ⟨F2, by omega, fun k al pr hk => c3 _ _ _ (fun e => ?_) (S.stays _ _ _ hk), fun f e => ((S.hm0 f e).less S.fine fr).keep kb, fun f e => ((S.hm5 f e).less S.fine fr).keep kb, fun k cs' e => ?_, fun k cs' e => ?_, fun k cs1 k' cs2 e e' => ?_, S.old⟩
  · have := S.old.lt hk; omega
  · obtain ⟨a', b', pre', g'⟩ := S.h7 k cs' e
    exact ⟨a', b', pre', c3 _ _ _ (S.ne _ _ _ _ e rfl) g'⟩
  · cases e
    exact ⟨a, rfl, _, c2⟩
  · cases e'
    exact S.ne _ _ _ _ e rfl
theorem St.ld {kx i : Nat} {cs : List AV} {pre : List Nat} (S : St H0 H w m0 m5 b7 b8) (g : H0.get kx = some (.cells cs true pre)) : loadV Try.prog E H 2 (.ptr (.new kx) i) = cs[i]? := by
  rw [ld_2, loadCell_new E (S.stays _ _ _ g)]

/-- They are there. -/
def Two (H0 H : AHeap) (w : Int) (v13 v14 : AV) : Prop := ∃ f0 f5 k7 k8, v13 = .ptr (.new k7) 0 ∧ v14 = .ptr (.new k8) 0 ∧ St H0 H w (some f0) (some f5) (some (k7, [.int .i64 4, f0])) (some (k8, [.int .i64 8, f5]))
theorem arr_0 {x0 x1 x2 x3 x4 x5 x6 x8 x9 x10 x11 x12 x13 x14 x15 x16 x17 x18 x19 x20 x21 x22 x23 x24 x25 x26 x27 x28 x29 x30 x31 x32 x33 x34 x35 x36 x37 x38 x39 x40 x41 x42 x43 x44 x45 x46 x47 x48 x49 x50 x51 x52 x53 x54 x55 x56 x57 x58 x59 x60 x61 x62 x63 x64 x65 x66 x67 x68 x69 x70 x71 x72 x73 x74 x75 x76 x77 x78 x79 x80 x81 x82 x83 x84 x85 x86 x87 x88 x89 x90 x91 x92 x93 x94 x95 x96 x97 x98 x99 x100 x101 x102 x103 x104 x105 x106 x107 x108 x109 x110 x111 x112 x113 x114 x115 x116 x117 x118 x119 : AV} {kx : Nat} {op a b : Int} {av : AV} {pre : List Nat} (F : Fine H0) (g : H0.get kx = some (.cells [.int .u8 op, .int .i64 a, .int .i64 b, av] true pre)) {Q : List AV → AHeap → Prop}
    (hQ : ∀ v13 v14 u0 u1 u2 u3 u4 u5 u6 H, Two H0 H (IntKind.u8.wrap a) v13 v14 → Q [x0, x1, x2, x3, x4, x5, x6, (.ptr (.new kx) 0), x8, x9, x10, x11, x12, v13, v14, x15, x16, x17, x18, x19, x20, x21, x22, x23, x24, x25, x26, x27, x28, x29, x30, x31, x32, x33, x34, x35, x36, x37, x38, x39, x40, x41, x42, x43, x44, x45, x46, x47, x48, x49, x50, x51, x52, x53, x54, x55, x56, x57, x58, x59, x60, x61, x62, x63, x64, x65, u0, u1, u2, u3, u4, u5, u6, x73, x74, x75, x76, x77, x78, x79, x80, x81, x82, x83, x84, x85, x86, x87, x88, x89, x90, x91, x92, x93, x94, x95, x96, x97, x98, x99, x100, x101, x102, x103, x104, x105, x106, x107, x108, x109, x110, x111, x112, x113, x114, x115, x116, x117, x118, x119] H) : vf.A20_16_0 E w0 Q x0 x1 x2 x3 x4 x5 x6 (.ptr (.new kx) 0) x8 x9 x10 x11 x12 x13 x14 x15 x16 x17 x18 x19 x20 x21 x22 x23 x24 x25 x26 x27 x28 x29 x30 x31 x32 x33 x34 x35 x36 x37 x38 x39 x40 x41 x42 x43 x44 x45 x46 x47 x48 x49 x50 x51 x52 x53 x54 x55 x56 x57 x58 x59 x60 x61 x62 x63 x64 x65 x66 x67 x68 x69 x70 x71 x72 x73 x74 x75 x76 x77 x78 x79 x80 x81 x82 x83 x84 x85 x86 x87 x88 x89 x90 x91 x92 x93 x94 x95 x96 x97 x98 x99 x100 x101 x102 x103 x104 x105 x106 x107 x108 x109 x110 x111 x112 x113 x114 x115 x116 x117 x118 x119 H0 := by
  unfold vf.A20_16_0
  have l1 : loadV Try.prog E H0 2 (.ptr (.new kx) 1) = some (.int .i64 a) := by rw [ld_2, loadCell_new E g]; rfl
  simp only [fa_24_1, oS, Nat.zero_add, l1, cv_2_5]
  refine ⟨by trivial, ?_⟩
  have S := St.begin (w := IntKind.u8.wrap a) F
  refine S.call0 fun f0 H1 S => ⟨by first | trivial | exact ⟨S.ld g, by trivial⟩, ?_⟩
  rw [build_81 (S.hm0 _ rfl), oS]
  refine S.call5 fun f5 H1 S => ⟨by first | trivial | exact ⟨S.ld g, by trivial⟩, ?_⟩
  rw [build_81 (S.hm5 _ rfl), oS]
  refine S.alloc7 fun k7 H1 S => ⟨by first | trivial | exact ⟨S.ld g, by trivial⟩, ?_⟩
  refine S.alloc8 fun k8 H1 S => ⟨by first | trivial | exact ⟨S.ld g, by trivial⟩, ?_⟩
  refine S.store7 fun _ H1 S => ⟨by first | trivial | exact ⟨S.ld g, by trivial⟩, ?_⟩
  refine S.store8 fun _ H1 S => ⟨by first | trivial | exact ⟨S.ld g, by trivial⟩, ?_⟩
  exact hQ _ _ _ _ _ _ _ _ _ _ ⟨_, _, _, _, rfl, rfl, S⟩
theorem arr_1 {x0 x1 x2 x3 x4 x5 x6 x8 x9 x10 x11 x12 x13 x14 x15 x16 x17 x18 x19 x20 x21 x22 x23 x24 x25 x26 x27 x28 x29 x30 x31 x32 x33 x34 x35 x36 x37 x38 x39 x40 x41 x42 x43 x44 x45 x46 x47 x48 x49 x50 x51 x52 x53 x54 x55 x56 x57 x58 x59 x60 x61 x62 x63 x64 x65 x66 x67 x68 x69 x70 x71 x72 x73 x74 x75 x76 x77 x78 x79 x80 x81 x82 x83 x84 x85 x86 x87 x88 x89 x90 x91 x92 x93 x94 x95 x96 x97 x98 x99 x100 x101 x102 x103 x104 x105 x106 x107 x108 x109 x110 x111 x112 x113 x114 x115 x116 x117 x118 x119 : AV} {kx : Nat} {op a b : Int} {av : AV} {pre : List Nat} (F : Fine H0) (g : H0.get kx = some (.cells [.int .u8 op, .int .i64 a, .int .i64 b, av] true pre)) {Q : List AV → AHeap → Prop}
    (hQ : ∀ v13 v14 u0 u1 u2 u3 u4 u5 u6 H, Two H0 H (IntKind.u8.wrap a) v13 v14 → Q [x0, x1, x2, x3, x4, x5, x6, (.ptr (.new kx) 0), x8, x9, x10, x11, x12, v13, v14, x15, x16, x17, x18, x19, x20, x21, x22, x23, x24, x25, x26, x27, x28, x29, x30, x31, x32, x33, x34, x35, x36, x37, x38, x39, x40, x41, x42, x43, x44, x45, x46, x47, x48, x49, x50, x51, x52, x53, x54, x55, x56, x57, x58, x59, x60, x61, x62, x63, x64, x65, u0, u1, u2, u3, u4, u5, u6, x73, x74, x75, x76, x77, x78, x79, x80, x81, x82, x83, x84, x85, x86, x87, x88, x89, x90, x91, x92, x93, x94, x95, x96, x97, x98, x99, x100, x101, x102, x103, x104, x105, x106, x107, x108, x109, x110, x111, x112, x113, x114, x115, x116, x117, x118, x119] H) : vf.A20_16_1 E w0 Q x0 x1 x2 x3 x4 x5 x6 (.ptr (.new kx) 0) x8 x9 x10 x11 x12 x13 x14 x15 x16 x17 x18 x19 x20 x21 x22 x23 x24 x25 x26 x27 x28 x29 x30 x31 x32 x33 x34 x35 x36 x37 x38 x39 x40 x41 x42 x43 x44 x45 x46 x47 x48 x49 x50 x51 x52 x53 x54 x55 x56 x57 x58 x59 x60 x61 x62 x63 x64 x65 x66 x67 x68 x69 x70 x71 x72 x73 x74 x75 x76 x77 x78 x79 x80 x81 x82 x83 x84 x85 x86 x87 x88 x89 x90 x91 x92 x93 x94 x95 x96 x97 x98 x99 x100 x101 x102 x103 x104 x105 x106 x107 x108 x109 x110 x111 x112 x113 x114 x115 x116 x117 x118 x119 H0 := by
  unfold vf.A20_16_1
  have l1 : loadV Try.prog E H0 2 (.ptr (.new kx) 1) = some (.int .i64 a) := by rw [ld_2, loadCell_new E g]; rfl
  simp only [fa_24_1, oS, Nat.zero_add, l1, cv_2_5]
  refine ⟨by trivial, ?_⟩
  have S := St.begin (w := IntKind.u8.wrap a) F
  refine S.call0 fun f0 H1 S => ⟨by first | trivial | exact ⟨S.ld g, by trivial⟩, ?_⟩
  rw [build_81 (S.hm0 _ rfl), oS]
  refine S.call5 fun f5 H1 S => ⟨by first | trivial | exact ⟨S.ld g, by trivial⟩, ?_⟩
  rw [build_81 (S.hm5 _ rfl), oS]
  refine S.alloc8 fun k8 H1 S => ⟨by first | trivial | exact ⟨S.ld g, by trivial⟩, ?_⟩
  refine S.alloc7 fun k7 H1 S => ⟨by first | trivial | exact ⟨S.ld g, by trivial⟩, ?_⟩
  refine S.store7 fun _ H1 S => ⟨by first | trivial | exact ⟨S.ld g, by trivial⟩, ?_⟩
  refine S.store8 fun _ H1 S => ⟨by first | trivial | exact ⟨S.ld g, by trivial⟩, ?_⟩
  exact hQ _ _ _ _ _ _ _ _ _ _ ⟨_, _, _, _, rfl, rfl, S⟩
theorem arr_2 {x0 x1 x2 x3 x4 x5 x6 x8 x9 x10 x11 x12 x13 x14 x15 x16 x17 x18 x19 x20 x21 x22 x23 x24 x25 x26 x27 x28 x29 x30 x31 x32 x33 x34 x35 x36 x37 x38 x39 x40 x41 x42 x43 x44 x45 x46 x47 x48 x49 x50 x51 x52 x53 x54 x55 x56 x57 x58 x59 x60 x61 x62 x63 x64 x65 x66 x67 x68 x69 x70 x71 x72 x73 x74 x75 x76 x77 x78 x79 x80 x81 x82 x83 x84 x85 x86 x87 x88 x89 x90 x91 x92 x93 x94 x95 x96 x97 x98 x99 x100 x101 x102 x103 x104 x105 x106 x107 x108 x109 x110 x111 x112 x113 x114 x115 x116 x117 x118 x119 : AV} {kx : Nat} {op a b : Int} {av : AV} {pre : List Nat} (F : Fine H0) (g : H0.get kx = some (.cells [.int .u8 op, .int .i64 a, .int .i64 b, av] true pre)) {Q : List AV → AHeap → Prop}
    (hQ : ∀ v13 v14 u0 u1 u2 u3 u4 u5 u6 H, Two H0 H (IntKind.u8.wrap a) v13 v14 → Q [x0, x1, x2, x3, x4, x5, x6, (.ptr (.new kx) 0), x8, x9, x10, x11, x12, v13, v14, x15, x16, x17, x18, x19, x20, x21, x22, x23, x24, x25, x26, x27, x28, x29, x30, x31, x32, x33, x34, x35, x36, x37, x38, x39, x40, x41, x42, x43, x44, x45, x46, x47, x48, x49, x50, x51, x52, x53, x54, x55, x56, x57, x58, x59, x60, x61, x62, x63, x64, x65, u0, u1, u2, u3, u4, u5, u6, x73, x74, x75, x76, x77, x78, x79, x80, x81, x82, x83, x84, x85, x86, x87, x88, x89, x90, x91, x92, x93, x94, x95, x96, x97, x98, x99, x100, x101, x102, x103, x104, x105, x106, x107, x108, x109, x110, x111, x112, x113, x114, x115, x116, x117, x118, x119] H) : vf.A20_16_2 E w0 Q x0 x1 x2 x3 x4 x5 x6 (.ptr (.new kx) 0) x8 x9 x10 x11 x12 x13 x14 x15 x16 x17 x18 x19 x20 x21 x22 x23 x24 x25 x26 x27 x28 x29 x30 x31 x32 x33 x34 x35 x36 x37 x38 x39 x40 x41 x42 x43 x44 x45 x46 x47 x48 x49 x50 x51 x52 x53 x54 x55 x56 x57 x58 x59 x60 x61 x62 x63 x64 x65 x66 x67 x68 x69 x70 x71 x72 x73 x74 x75 x76 x77 x78 x79 x80 x81 x82 x83 x84 x85 x86 x87 x88 x89 x90 x91 x92 x93 x94 x95 x96 x97 x98 x99 x100 x101 x102 x103 x104 x105 x106 x107 x108 x109 x110 x111 x112 x113 x114 x115 x116 x117 x118 x119 H0 := by
  unfold vf.A20_16_2
  have l1 : loadV Try.prog E H0 2 (.ptr (.new kx) 1) = some (.int .i64 a) := by rw [ld_2, loadCell_new E g]; rfl
  simp only [fa_24_1, oS, Nat.zero_add, l1, cv_2_5]
  refine ⟨by trivial, ?_⟩
  have S := St.begin (w := IntKind.u8.wrap a) F
  refine S.call0 fun f0 H1 S => ⟨by first | trivial | exact ⟨S.ld g, by trivial⟩, ?_⟩
  rw [build_81 (S.hm0 _ rfl), oS]
  refine S.alloc7 fun k7 H1 S => ⟨by first | trivial | exact ⟨S.ld g, by trivial⟩, ?_⟩
  refine S.call5 fun f5 H1 S => ⟨by first | trivial | exact ⟨S.ld g, by trivial⟩, ?_⟩
  rw [build_81 (S.hm5 _ rfl), oS]
  refine S.alloc8 fun k8 H1 S => ⟨by first | trivial | exact ⟨S.ld g, by trivial⟩, ?_⟩
  refine S.store7 fun _ H1 S => ⟨by first | trivial | exact ⟨S.ld g, by trivial⟩, ?_⟩
  refine S.store8 fun _ H1 S => ⟨by first | trivial | exact ⟨S.ld g, by trivial⟩, ?_⟩
  exact hQ _ _ _ _ _ _ _ _ _ _ ⟨_, _, _, _, rfl, rfl, S⟩
theorem arr_3 {x0 x1 x2 x3 x4 x5 x6 x8 x9 x10 x11 x12 x13 x14 x15 x16 x17 x18 x19 x20 x21 x22 x23 x24 x25 x26 x27 x28 x29 x30 x31 x32 x33 x34 x35 x36 x37 x38 x39 x40 x41 x42 x43 x44 x45 x46 x47 x48 x49 x50 x51 x52 x53 x54 x55 x56 x57 x58 x59 x60 x61 x62 x63 x64 x65 x66 x67 x68 x69 x70 x71 x72 x73 x74 x75 x76 x77 x78 x79 x80 x81 x82 x83 x84 x85 x86 x87 x88 x89 x90 x91 x92 x93 x94 x95 x96 x97 x98 x99 x100 x101 x102 x103 x104 x105 x106 x107 x108 x109 x110 x111 x112 x113 x114 x115 x116 x117 x118 x119 : AV} {kx : Nat} {op a b : Int} {av : AV} {pre : List Nat} (F : Fine H0) (g : H0.get kx = some (.cells [.int .u8 op, .int .i64 a, .int .i64 b, av] true pre)) {Q : List AV → AHeap → Prop}
    (hQ : ∀ v13 v14 u0 u1 u2 u3 u4 u5 u6 H, Two H0 H (IntKind.u8.wrap a) v13 v14 → Q [x0, x1, x2, x3, x4, x5, x6, (.ptr (.new kx) 0), x8, x9, x10, x11, x12, v13, v14, x15, x16, x17, x18, x19, x20, x21, x22, x23, x24, x25, x26, x27, x28, x29, x30, x31, x32, x33, x34, x35, x36, x37, x38, x39, x40, x41, x42, x43, x44, x45, x46, x47, x48, x49, x50, x51, x52, x53, x54, x55, x56, x57, x58, x59, x60, x61, x62, x63, x64, x65, u0, u1, u2, u3, u4, u5, u6, x73, x74, x75, x76, x77, x78, x79, x80, x81, x82, x83, x84, x85, x86, x87, x88, x89, x90, x91, x92, x93, x94, x95, x96, x97, x98, x99, x100, x101, x102, x103, x104, x105, x106, x107, x108, x109, x110, x111, x112, x113, x114, x115, x116, x117, x118, x119] H) : vf.A20_16_3 E w0 Q x0 x1 x2 x3 x4 x5 x6 (.ptr (.new kx) 0) x8 x9 x10 x11 x12 x13 x14 x15 x16 x17 x18 x19 x20 x21 x22 x23 x24 x25 x26 x27 x28 x29 x30 x31 x32 x33 x34 x35 x36 x37 x38 x39 x40 x41 x42 x43 x44 x45 x46 x47 x48 x49 x50 x51 x52 x53 x54 x55 x56 x57 x58 x59 x60 x61 x62 x63 x64 x65 x66 x67 x68 x69 x70 x71 x72 x73 x74 x75 x76 x77 x78 x79 x80 x81 x82 x83 x84 x85 x86 x87 x88 x89 x90 x91 x92 x93 x94 x95 x96 x97 x98 x99 x100 x101 x102 x103 x104 x105 x106 x107 x108 x109 x110 x111 x112 x113 x114 x115 x116 x117 x118 x119 H0 := by
  unfold vf.A20_16_3
  have l1 : loadV Try.prog E H0 2 (.ptr (.new kx) 1) = some (.int .i64 a) := by rw [ld_2, loadCell_new E g]; rfl
  simp only [fa_24_1, oS, Nat.zero_add, l1, cv_2_5]
  refine ⟨by trivial, ?_⟩
  have S := St.begin (w := IntKind.u8.wrap a) F
  refine S.call0 fun f0 H1 S => ⟨by first | trivial | exact ⟨S.ld g, by trivial⟩, ?_⟩
  rw [build_81 (S.hm0 _ rfl), oS]
  refine S.alloc7 fun k7 H1 S => ⟨by first | trivial | exact ⟨S.ld g, by trivial⟩, ?_⟩
  refine S.alloc8 fun k8 H1 S => ⟨by first | trivial | exact ⟨S.ld g, by trivial⟩, ?_⟩
  refine S.call5 fun f5 H1 S => ⟨by first | trivial | exact ⟨S.ld g, by trivial⟩, ?_⟩
  rw [build_81 (S.hm5 _ rfl), oS]
  refine S.store7 fun _ H1 S => ⟨by first | trivial | exact ⟨S.ld g, by trivial⟩, ?_⟩
  refine S.store8 fun _ H1 S => ⟨by first | trivial | exact ⟨S.ld g, by trivial⟩, ?_⟩
  exact hQ _ _ _ _ _ _ _ _ _ _ ⟨_, _, _, _, rfl, rfl, S⟩
theorem arr_4 {x0 x1 x2 x3 x4 x5 x6 x8 x9 x10 x11 x12 x13 x14 x15 x16 x17 x18 x19 x20 x21 x22 x23 x24 x25 x26 x27 x28 x29 x30 x31 x32 x33 x34 x35 x36 x37 x38 x39 x40 x41 x42 x43 x44 x45 x46 x47 x48 x49 x50 x51 x52 x53 x54 x55 x56 x57 x58 x59 x60 x61 x62 x63 x64 x65 x66 x67 x68 x69 x70 x71 x72 x73 x74 x75 x76 x77 x78 x79 x80 x81 x82 x83 x84 x85 x86 x87 x88 x89 x90 x91 x92 x93 x94 x95 x96 x97 x98 x99 x100 x101 x102 x103 x104 x105 x106 x107 x108 x109 x110 x111 x112 x113 x114 x115 x116 x117 x118 x119 : AV} {kx : Nat} {op a b : Int} {av : AV} {pre : List Nat} (F : Fine H0) (g : H0.get kx = some (.cells [.int .u8 op, .int .i64 a, .int .i64 b, av] true pre)) {Q : List AV → AHeap → Prop}
    (hQ : ∀ v13 v14 u0 u1 u2 u3 u4 u5 u6 H, Two H0 H (IntKind.u8.wrap a) v13 v14 → Q [x0, x1, x2, x3, x4, x5, x6, (.ptr (.new kx) 0), x8, x9, x10, x11, x12, v13, v14, x15, x16, x17, x18, x19, x20, x21, x22, x23, x24, x25, x26, x27, x28, x29, x30, x31, x32, x33, x34, x35, x36, x37, x38, x39, x40, x41, x42, x43, x44, x45, x46, x47, x48, x49, x50, x51, x52, x53, x54, x55, x56, x57, x58, x59, x60, x61, x62, x63, x64, x65, u0, u1, u2, u3, u4, u5, u6, x73, x74, x75, x76, x77, x78, x79, x80, x81, x82, x83, x84, x85, x86, x87, x88, x89, x90, x91, x92, x93, x94, x95, x96, x97, x98, x99, x100, x101, x102, x103, x104, x105, x106, x107, x108, x109, x110, x111, x112, x113, x114, x115, x116, x117, x118, x119] H) : vf.A20_16_4 E w0 Q x0 x1 x2 x3 x4 x5 x6 (.ptr (.new kx) 0) x8 x9 x10 x11 x12 x13 x14 x15 x16 x17 x18 x19 x20 x21 x22 x23 x24 x25 x26 x27 x28 x29 x30 x31 x32 x33 x34 x35 x36 x37 x38 x39 x40 x41 x42 x43 x44 x45 x46 x47 x48 x49 x50 x51 x52 x53 x54 x55 x56 x57 x58 x59 x60 x61 x62 x63 x64 x65 x66 x67 x68 x69 x70 x71 x72 x73 x74 x75 x76 x77 x78 x79 x80 x81 x82 x83 x84 x85 x86 x87 x88 x89 x90 x91 x92 x93 x94 x95 x96 x97 x98 x99 x100 x101 x102 x103 x104 x105 x106 x107 x108 x109 x110 x111 x112 x113 x114 x115 x116 x117 x118 x119 H0 := by
  unfold vf.A20_16_4
  have l1 : loadV Try.prog E H0 2 (.ptr (.new kx) 1) = some (.int .i64 a) := by rw [ld_2, loadCell_new E g]; rfl
  simp only [fa_24_1, oS, Nat.zero_add, l1, cv_2_5]
  refine ⟨by trivial, ?_⟩
  have S := St.begin (w := IntKind.u8.wrap a) F
  refine S.call0 fun f0 H1 S => ⟨by first | trivial | exact ⟨S.ld g, by trivial⟩, ?_⟩
  rw [build_81 (S.hm0 _ rfl), oS]
  refine S.alloc8 fun k8 H1 S => ⟨by first | trivial | exact ⟨S.ld g, by trivial⟩, ?_⟩
  refine S.call5 fun f5 H1 S => ⟨by first | trivial | exact ⟨S.ld g, by trivial⟩, ?_⟩
  rw [build_81 (S.hm5 _ rfl), oS]
  refine S.alloc7 fun k7 H1 S => ⟨by first | trivial | exact ⟨S.ld g, by trivial⟩, ?_⟩
  refine S.store7 fun _ H1 S => ⟨by first | trivial | exact ⟨S.ld g, by trivial⟩, ?_⟩
  refine S.store8 fun _ H1 S => ⟨by first | trivial | exact ⟨S.ld g, by trivial⟩, ?_⟩
  exact hQ _ _ _ _ _ _ _ _ _ _ ⟨_, _, _, _, rfl, rfl, S⟩
theorem arr_5 {x0 x1 x2 x3 x4 x5 x6 x8 x9 x10 x11 x12 x13 x14 x15 x16 x17 x18 x19 x20 x21 x22 x23 x24 x25 x26 x27 x28 x29 x30 x31 x32 x33 x34 x35 x36 x37 x38 x39 x40 x41 x42 x43 x44 x45 x46 x47 x48 x49 x50 x51 x52 x53 x54 x55 x56 x57 x58 x59 x60 x61 x62 x63 x64 x65 x66 x67 x68 x69 x70 x71 x72 x73 x74 x75 x76 x77 x78 x79 x80 x81 x82 x83 x84 x85 x86 x87 x88 x89 x90 x91 x92 x93 x94 x95 x96 x97 x98 x99 x100 x101 x102 x103 x104 x105 x106 x107 x108 x109 x110 x111 x112 x113 x114 x115 x116 x117 x118 x119 : AV} {kx : Nat} {op a b : Int} {av : AV} {pre : List Nat} (F : Fine H0) (g : H0.get kx = some (.cells [.int .u8 op, .int .i64 a, .int .i64 b, av] true pre)) {Q : List AV → AHeap → Prop}
    (hQ : ∀ v13 v14 u0 u1 u2 u3 u4 u5 u6 H, Two H0 H (IntKind.u8.wrap a) v13 v14 → Q [x0, x1, x2, x3, x4, x5, x6, (.ptr (.new kx) 0), x8, x9, x10, x11, x12, v13, v14, x15, x16, x17, x18, x19, x20, x21, x22, x23, x24, x25, x26, x27, x28, x29, x30, x31, x32, x33, x34, x35, x36, x37, x38, x39, x40, x41, x42, x43, x44, x45, x46, x47, x48, x49, x50, x51, x52, x53, x54, x55, x56, x57, x58, x59, x60, x61, x62, x63, x64, x65, u0, u1, u2, u3, u4, u5, u6, x73, x74, x75, x76, x77, x78, x79, x80, x81, x82, x83, x84, x85, x86, x87, x88, x89, x90, x91, x92, x93, x94, x95, x96, x97, x98, x99, x100, x101, x102, x103, x104, x105, x106, x107, x108, x109, x110, x111, x112, x113, x114, x115, x116, x117, x118, x119] H) : vf.A20_16_5 E w0 Q x0 x1 x2 x3 x4 x5 x6 (.ptr (.new kx) 0) x8 x9 x10 x11 x12 x13 x14 x15 x16 x17 x18 x19 x20 x21 x22 x23 x24 x25 x26 x27 x28 x29 x30 x31 x32 x33 x34 x35 x36 x37 x38 x39 x40 x41 x42 x43 x44 x45 x46 x47 x48 x49 x50 x51 x52 x53 x54 x55 x56 x57 x58 x59 x60 x61 x62 x63 x64 x65 x66 x67 x68 x69 x70 x71 x72 x73 x74 x75 x76 x77 x78 x79 x80 x81 x82 x83 x84 x85 x86 x87 x88 x89 x90 x91 x92 x93 x94 x95 x96 x97 x98 x99 x100 x101 x102 x103 x104 x105 x106 x107 x108 x109 x110 x111 x112 x113 x114 x115 x116 x117 x118 x119 H0 := by
  unfold vf.A20_16_5
  have l1 : loadV Try.prog E H0 2 (.ptr (.new kx) 1) = some (.int .i64 a) := by rw [ld_2, loadCell_new E g]; rfl
  simp only [fa_24_1, oS, Nat.zero_add, l1, cv_2_5]
  refine ⟨by trivial, ?_⟩
  have S := St.begin (w := IntKind.u8.wrap a) F
  refine S.call0 fun f0 H1 S => ⟨by first | trivial | exact ⟨S.ld g, by trivial⟩, ?_⟩
  rw [build_81 (S.hm0 _ rfl), oS]
  refine S.alloc8 fun k8 H1 S => ⟨by first | trivial | exact ⟨S.ld g, by trivial⟩, ?_⟩
  refine S.alloc7 fun k7 H1 S => ⟨by first | trivial | exact ⟨S.ld g, by trivial⟩, ?_⟩
  refine S.call5 fun f5 H1 S => ⟨by first | trivial | exact ⟨S.ld g, by trivial⟩, ?_⟩
  rw [build_81 (S.hm5 _ rfl), oS]
  refine S.store7 fun _ H1 S => ⟨by first | trivial | exact ⟨S.ld g, by trivial⟩, ?_⟩
  refine S.store8 fun _ H1 S => ⟨by first | trivial | exact ⟨S.ld g, by trivial⟩, ?_⟩
  exact hQ _ _ _ _ _ _ _ _ _ _ ⟨_, _, _, _, rfl, rfl, S⟩
theorem arr_6 {x0 x1 x2 x3 x4 x5 x6 x8 x9 x10 x11 x12 x13 x14 x15 x16 x17 x18 x19 x20 x21 x22 x23 x24 x25 x26 x27 x28 x29 x30 x31 x32 x33 x34 x35 x36 x37 x38 x39 x40 x41 x42 x43 x44 x45 x46 x47 x48 x49 x50 x51 x52 x53 x54 x55 x56 x57 x58 x59 x60 x61 x62 x63 x64 x65 x66 x67 x68 x69 x70 x71 x72 x73 x74 x75 x76 x77 x78 x79 x80 x81 x82 x83 x84 x85 x86 x87 x88 x89 x90 x91 x92 x93 x94 x95 x96 x97 x98 x99 x100 x101 x102 x103 x104 x105 x106 x107 x108 x109 x110 x111 x112 x113 x114 x115 x116 x117 x118 x119 : AV} {kx : Nat} {op a b : Int} {av : AV} {pre : List Nat} (F : Fine H0) (g : H0.get kx = some (.cells [.int .u8 op, .int .i64 a, .int .i64 b, av] true pre)) {Q : List AV → AHeap → Prop}
    (hQ : ∀ v13 v14 u0 u1 u2 u3 u4 u5 u6 H, Two H0 H (IntKind.u8.wrap a) v13 v14 → Q [x0, x1, x2, x3, x4, x5, x6, (.ptr (.new kx) 0), x8, x9, x10, x11, x12, v13, v14, x15, x16, x17, x18, x19, x20, x21, x22, x23, x24, x25, x26, x27, x28, x29, x30, x31, x32, x33, x34, x35, x36, x37, x38, x39, x40, x41, x42, x43, x44, x45, x46, x47, x48, x49, x50, x51, x52, x53, x54, x55, x56, x57, x58, x59, x60, x61, x62, x63, x64, x65, u0, u1, u2, u3, u4, u5, u6, x73, x74, x75, x76, x77, x78, x79, x80, x81, x82, x83, x84, x85, x86, x87, x88, x89, x90, x91, x92, x93, x94, x95, x96, x97, x98, x99, x100, x101, x102, x103, x104, x105, x106, x107, x108, x109, x110, x111, x112, x113, x114, x115, x116, x117, x118, x119] H) : vf.A20_16_6 E w0 Q x0 x1 x2 x3 x4 x5 x6 (.ptr (.new kx) 0) x8 x9 x10 x11 x12 x13 x14 x15 x16 x17 x18 x19 x20 x21 x22 x23 x24 x25 x26 x27 x28 x29 x30 x31 x32 x33 x34 x35 x36 x37 x38 x39 x40 x41 x42 x43 x44 x45 x46 x47 x48 x49 x50 x51 x52 x53 x54 x55 x56 x57 x58 x59 x60 x61 x62 x63 x64 x65 x66 x67 x68 x69 x70 x71 x72 x73 x74 x75 x76 x77 x78 x79 x80 x81 x82 x83 x84 x85 x86 x87 x88 x89 x90 x91 x92 x93 x94 x95 x96 x97 x98 x99 x100 x101 x102 x103 x104 x105 x106 x107 x108 x109 x110 x111 x112 x113 x114 x115 x116 x117 x118 x119 H0 := by
  unfold vf.A20_16_6
  have l1 : loadV Try.prog E H0 2 (.ptr (.new kx) 1) = some (.int .i64 a) := by rw [ld_2, loadCell_new E g]; rfl
  simp only [fa_24_1, oS, Nat.zero_add, l1, cv_2_5]
  refine ⟨by trivial, ?_⟩
  have S := St.begin (w := IntKind.u8.wrap a) F
  refine S.alloc7 fun k7 H1 S => ⟨by first | trivial | exact ⟨S.ld g, by trivial⟩, ?_⟩
  refine S.call0 fun f0 H1 S => ⟨by first | trivial | exact ⟨S.ld g, by trivial⟩, ?_⟩
  rw [build_81 (S.hm0 _ rfl), oS]
  refine S.call5 fun f5 H1 S => ⟨by first | trivial | exact ⟨S.ld g, by trivial⟩, ?_⟩
  rw [build_81 (S.hm5 _ rfl), oS]
  refine S.alloc8 fun k8 H1 S => ⟨by first | trivial | exact ⟨S.ld g, by trivial⟩, ?_⟩
  refine S.store7 fun _ H1 S => ⟨by first | trivial | exact ⟨S.ld g, by trivial⟩, ?_⟩
  refine S.store8 fun _ H1 S => ⟨by first | trivial | exact ⟨S.ld g, by trivial⟩, ?_⟩
  exact hQ _ _ _ _ _ _ _ _ _ _ ⟨_, _, _, _, rfl, rfl, S⟩
theorem arr_7 {x0 x1 x2 x3 x4 x5 x6 x8 x9 x10 x11 x12 x13 x14 x15 x16 x17 x18 x19 x20 x21 x22 x23 x24 x25 x26 x27 x28 x29 x30 x31 x32 x33 x34 x35 x36 x37 x38 x39 x40 x41 x42 x43 x44 x45 x46 x47 x48 x49 x50 x51 x52 x53 x54 x55 x56 x57 x58 x59 x60 x61 x62 x63 x64 x65 x66 x67 x68 x69 x70 x71 x72 x73 x74 x75 x76 x77 x78 x79 x80 x81 x82 x83 x84 x85 x86 x87 x88 x89 x90 x91 x92 x93 x94 x95 x96 x97 x98 x99 x100 x101 x102 x103 x104 x105 x106 x107 x108 x109 x110 x111 x112 x113 x114 x115 x116 x117 x118 x119 : AV} {kx : Nat} {op a b : Int} {av : AV} {pre : List Nat} (F : Fine H0) (g : H0.get kx = some (.cells [.int .u8 op, .int .i64 a, .int .i64 b, av] true pre)) {Q : List AV → AHeap → Prop}
    (hQ : ∀ v13 v14 u0 u1 u2 u3 u4 u5 u6 H, Two H0 H (IntKind.u8.wrap a) v13 v14 → Q [x0, x1, x2, x3, x4, x5, x6, (.ptr (.new kx) 0), x8, x9, x10, x11, x12, v13, v14, x15, x16, x17, x18, x19, x20, x21, x22, x23, x24, x25, x26, x27, x28, x29, x30, x31, x32, x33, x34, x35, x36, x37, x38, x39, x40, x41, x42, x43, x44, x45, x46, x47, x48, x49, x50, x51, x52, x53, x54, x55, x56, x57, x58, x59, x60, x61, x62, x63, x64, x65, u0, u1, u2, u3, u4, u5, u6, x73, x74, x75, x76, x77, x78, x79, x80, x81, x82, x83, x84, x85, x86, x87, x88, x89, x90, x91, x92, x93, x94, x95, x96, x97, x98, x99, x100, x101, x102, x103, x104, x105, x106, x107, x108, x109, x110, x111, x112, x113, x114, x115, x116, x117, x118, x119] H) : vf.A20_16_7 E w0 Q x0 x1 x2 x3 x4 x5 x6 (.ptr (.new kx) 0) x8 x9 x10 x11 x12 x13 x14 x15 x16 x17 x18 x19 x20 x21 x22 x23 x24 x25 x26 x27 x28 x29 x30 x31 x32 x33 x34 x35 x36 x37 x38 x39 x40 x41 x42 x43 x44 x45 x46 x47 x48 x49 x50 x51 x52 x53 x54 x55 x56 x57 x58 x59 x60 x61 x62 x63 x64 x65 x66 x67 x68 x69 x70 x71 x72 x73 x74 x75 x76 x77 x78 x79 x80 x81 x82 x83 x84 x85 x86 x87 x88 x89 x90 x91 x92 x93 x94 x95 x96 x97 x98 x99 x100 x101 x102 x103 x104 x105 x106 x107 x108 x109 x110 x111 x112 x113 x114 x115 x116 x117 x118 x119 H0 := by
  unfold vf.A20_16_7
  have l1 : loadV Try.prog E H0 2 (.ptr (.new kx) 1) = some (.int .i64 a) := by rw [ld_2, loadCell_new E g]; rfl
  simp only [fa_24_1, oS, Nat.zero_add, l1, cv_2_5]
  refine ⟨by trivial, ?_⟩
  have S := St.begin (w := IntKind.u8.wrap a) F
  refine S.alloc7 fun k7 H1 S => ⟨by first | trivial | exact ⟨S.ld g, by trivial⟩, ?_⟩
  refine S.call0 fun f0 H1 S => ⟨by first | trivial | exact ⟨S.ld g, by trivial⟩, ?_⟩
  rw [build_81 (S.hm0 _ rfl), oS]
  refine S.alloc8 fun k8 H1 S => ⟨by first | trivial | exact ⟨S.ld g, by trivial⟩, ?_⟩
  refine S.call5 fun f5 H1 S => ⟨by first | trivial | exact ⟨S.ld g, by trivial⟩, ?_⟩
  rw [build_81 (S.hm5 _ rfl), oS]
  refine S.store7 fun _ H1 S => ⟨by first | trivial | exact ⟨S.ld g, by trivial⟩, ?_⟩
  refine S.store8 fun _ H1 S => ⟨by first | trivial | exact ⟨S.ld g, by trivial⟩, ?_⟩
  exact hQ _ _ _ _ _ _ _ _ _ _ ⟨_, _, _, _, rfl, rfl, S⟩
theorem arr_8 {x0 x1 x2 x3 x4 x5 x6 x8 x9 x10 x11 x12 x13 x14 x15 x16 x17 x18 x19 x20 x21 x22 x23 x24 x25 x26 x27 x28 x29 x30 x31 x32 x33 x34 x35 x36 x37 x38 x39 x40 x41 x42 x43 x44 x45 x46 x47 x48 x49 x50 x51 x52 x53 x54 x55 x56 x57 x58 x59 x60 x61 x62 x63 x64 x65 x66 x67 x68 x69 x70 x71 x72 x73 x74 x75 x76 x77 x78 x79 x80 x81 x82 x83 x84 x85 x86 x87 x88 x89 x90 x91 x92 x93 x94 x95 x96 x97 x98 x99 x100 x101 x102 x103 x104 x105 x106 x107 x108 x109 x110 x111 x112 x113 x114 x115 x116 x117 x118 x119 : AV} {kx : Nat} {op a b : Int} {av : AV} {pre : List Nat} (F : Fine H0) (g : H0.get kx = some (.cells [.int .u8 op, .int .i64 a, .int .i64 b, av] true pre)) {Q : List AV → AHeap → Prop}
    (hQ : ∀ v13 v14 u0 u1 u2 u3 u4 u5 u6 H, Two H0 H (IntKind.u8.wrap a) v13 v14 → Q [x0, x1, x2, x3, x4, x5, x6, (.ptr (.new kx) 0), x8, x9, x10, x11, x12, v13, v14, x15, x16, x17, x18, x19, x20, x21, x22, x23, x24, x25, x26, x27, x28, x29, x30, x31, x32, x33, x34, x35, x36, x37, x38, x39, x40, x41, x42, x43, x44, x45, x46, x47, x48, x49, x50, x51, x52, x53, x54, x55, x56, x57, x58, x59, x60, x61, x62, x63, x64, x65, u0, u1, u2, u3, u4, u5, u6, x73, x74, x75, x76, x77, x78, x79, x80, x81, x82, x83, x84, x85, x86, x87, x88, x89, x90, x91, x92, x93, x94, x95, x96, x97, x98, x99, x100, x101, x102, x103, x104, x105, x106, x107, x108, x109, x110, x111, x112, x113, x114, x115, x116, x117, x118, x119] H) : vf.A20_16_8 E w0 Q x0 x1 x2 x3 x4 x5 x6 (.ptr (.new kx) 0) x8 x9 x10 x11 x12 x13 x14 x15 x16 x17 x18 x19 x20 x21 x22 x23 x24 x25 x26 x27 x28 x29 x30 x31 x32 x33 x34 x35 x36 x37 x38 x39 x40 x41 x42 x43 x44 x45 x46 x47 x48 x49 x50 x51 x52 x53 x54 x55 x56 x57 x58 x59 x60 x61 x62 x63 x64 x65 x66 x67 x68 x69 x70 x71 x72 x73 x74 x75 x76 x77 x78 x79 x80 x81 x82 x83 x84 x85 x86 x87 x88 x89 x90 x91 x92 x93 x94 x95 x96 x97 x98 x99 x100 x101 x102 x103 x104 x105 x106 x107 x108 x109 x110 x111 x112 x113 x114 x115 x116 x117 x118 x119 H0 := by
  unfold vf.A20_16_8
  have l1 : loadV Try.prog E H0 2 (.ptr (.new kx) 1) = some (.int .i64 a) := by rw [ld_2, loadCell_new E g]; rfl
  simp only [fa_24_1, oS, Nat.zero_add, l1, cv_2_5]
  refine ⟨by trivial, ?_⟩
  have S := St.begin (w := IntKind.u8.wrap a) F
  refine S.alloc7 fun k7 H1 S => ⟨by first | trivial | exact ⟨S.ld g, by trivial⟩, ?_⟩
  refine S.alloc8 fun k8 H1 S => ⟨by first | trivial | exact ⟨S.ld g, by trivial⟩, ?_⟩
  refine S.call0 fun f0 H1 S => ⟨by first | trivial | exact ⟨S.ld g, by trivial⟩, ?_⟩
  rw [build_81 (S.hm0 _ rfl), oS]
  refine S.call5 fun f5 H1 S => ⟨by first | trivial | exact ⟨S.ld g, by trivial⟩, ?_⟩
  rw [build_81 (S.hm5 _ rfl), oS]
  refine S.store7 fun _ H1 S => ⟨by first | trivial | exact ⟨S.ld g, by trivial⟩, ?_⟩
  refine S.store8 fun _ H1 S => ⟨by first | trivial | exact ⟨S.ld g, by trivial⟩, ?_⟩
  exact hQ _ _ _ _ _ _ _ _ _ _ ⟨_, _, _, _, rfl, rfl, S⟩
theorem arr_9 {x0 x1 x2 x3 x4 x5 x6 x8 x9 x10 x11 x12 x13 x14 x15 x16 x17 x18 x19 x20 x21 x22 x23 x24 x25 x26 x27 x28 x29 x30 x31 x32 x33 x34 x35 x36 x37 x38 x39 x40 x41 x42 x43 x44 x45 x46 x47 x48 x49 x50 x51 x52 x53 x54 x55 x56 x57 x58 x59 x60 x61 x62 x63 x64 x65 x66 x67 x68 x69 x70 x71 x72 x73 x74 x75 x76 x77 x78 x79 x80 x81 x82 x83 x84 x85 x86 x87 x88 x89 x90 x91 x92 x93 x94 x95 x96 x97 x98 x99 x100 x101 x102 x103 x104 x105 x106 x107 x108 x109 x110 x111 x112 x113 x114 x115 x116 x117 x118 x119 : AV} {kx : Nat} {op a b : Int} {av : AV} {pre : List Nat} (F : Fine H0) (g : H0.get kx = some (.cells [.int .u8 op, .int .i64 a, .int .i64 b, av] true pre)) {Q : List AV → AHeap → Prop}
    (hQ : ∀ v13 v14 u0 u1 u2 u3 u4 u5 u6 H, Two H0 H (IntKind.u8.wrap a) v13 v14 → Q [x0, x1, x2, x3, x4, x5, x6, (.ptr (.new kx) 0), x8, x9, x10, x11, x12, v13, v14, x15, x16, x17, x18, x19, x20, x21, x22, x23, x24, x25, x26, x27, x28, x29, x30, x31, x32, x33, x34, x35, x36, x37, x38, x39, x40, x41, x42, x43, x44, x45, x46, x47, x48, x49, x50, x51, x52, x53, x54, x55, x56, x57, x58, x59, x60, x61, x62, x63, x64, x65, u0, u1, u2, u3, u4, u5, u6, x73, x74, x75, x76, x77, x78, x79, x80, x81, x82, x83, x84, x85, x86, x87, x88, x89, x90, x91, x92, x93, x94, x95, x96, x97, x98, x99, x100, x101, x102, x103, x104, x105, x106, x107, x108, x109, x110, x111, x112, x113, x114, x115, x116, x117, x118, x119] H) : vf.A20_16_9 E w0 Q x0 x1 x2 x3 x4 x5 x6 (.ptr (.new kx) 0) x8 x9 x10 x11 x12 x13 x14 x15 x16 x17 x18 x19 x20 x21 x22 x23 x24 x25 x26 x27 x28 x29 x30 x31 x32 x33 x34 x35 x36 x37 x38 x39 x40 x41 x42 x43 x44 x45 x46 x47 x48 x49 x50 x51 x52 x53 x54 x55 x56 x57 x58 x59 x60 x61 x62 x63 x64 x65 x66 x67 x68 x69 x70 x71 x72 x73 x74 x75 x76 x77 x78 x79 x80 x81 x82 x83 x84 x85 x86 x87 x88 x89 x90 x91 x92 x93 x94 x95 x96 x97 x98 x99 x100 x101 x102 x103 x104 x105 x106 x107 x108 x109 x110 x111 x112 x113 x114 x115 x116 x117 x118 x119 H0 := by
  unfold vf.A20_16_9
  have l1 : loadV Try.prog E H0 2 (.ptr (.new kx) 1) = some (.int .i64 a) := by rw [ld_2, loadCell_new E g]; rfl
  simp only [fa_24_1, oS, Nat.zero_add, l1, cv_2_5]
  refine ⟨by trivial, ?_⟩
  have S := St.begin (w := IntKind.u8.wrap a) F
  refine S.alloc8 fun k8 H1 S => ⟨by first | trivial | exact ⟨S.ld g, by trivial⟩, ?_⟩
  refine S.call0 fun f0 H1 S => ⟨by first | trivial | exact ⟨S.ld g, by trivial⟩, ?_⟩
  rw [build_81 (S.hm0 _ rfl), oS]
  refine S.call5 fun f5 H1 S => ⟨by first | trivial | exact ⟨S.ld g, by trivial⟩, ?_⟩
  rw [build_81 (S.hm5 _ rfl), oS]
  refine S.alloc7 fun k7 H1 S => ⟨by first | trivial | exact ⟨S.ld g, by trivial⟩, ?_⟩
  refine S.store7 fun _ H1 S => ⟨by first | trivial | exact ⟨S.ld g, by trivial⟩, ?_⟩
  refine S.store8 fun _ H1 S => ⟨by first | trivial | exact ⟨S.ld g, by trivial⟩, ?_⟩
  exact hQ _ _ _ _ _ _ _ _ _ _ ⟨_, _, _, _, rfl, rfl, S⟩
theorem arr_10 {x0 x1 x2 x3 x4 x5 x6 x8 x9 x10 x11 x12 x13 x14 x15 x16 x17 x18 x19 x20 x21 x22 x23 x24 x25 x26 x27 x28 x29 x30 x31 x32 x33 x34 x35 x36 x37 x38 x39 x40 x41 x42 x43 x44 x45 x46 x47 x48 x49 x50 x51 x52 x53 x54 x55 x56 x57 x58 x59 x60 x61 x62 x63 x64 x65 x66 x67 x68 x69 x70 x71 x72 x73 x74 x75 x76 x77 x78 x79 x80 x81 x82 x83 x84 x85 x86 x87 x88 x89 x90 x91 x92 x93 x94 x95 x96 x97 x98 x99 x100 x101 x102 x103 x104 x105 x106 x107 x108 x109 x110 x111 x112 x113 x114 x115 x116 x117 x118 x119 : AV} {kx : Nat} {op a b : Int} {av : AV} {pre : List Nat} (F : Fine H0) (g : H0.get kx = some (.cells [.int .u8 op, .int .i64 a, .int .i64 b, av] true pre)) {Q : List AV → AHeap → Prop}
    (hQ : ∀ v13 v14 u0 u1 u2 u3 u4 u5 u6 H, Two H0 H (IntKind.u8.wrap a) v13 v14 → Q [x0, x1, x2, x3, x4, x5, x6, (.ptr (.new kx) 0), x8, x9, x10, x11, x12, v13, v14, x15, x16, x17, x18, x19, x20, x21, x22, x23, x24, x25, x26, x27, x28, x29, x30, x31, x32, x33, x34, x35, x36, x37, x38, x39, x40, x41, x42, x43, x44, x45, x46, x47, x48, x49, x50, x51, x52, x53, x54, x55, x56, x57, x58, x59, x60, x61, x62, x63, x64, x65, u0, u1, u2, u3, u4, u5, u6, x73, x74, x75, x76, x77, x78, x79, x80, x81, x82, x83, x84, x85, x86, x87, x88, x89, x90, x91, x92, x93, x94, x95, x96, x97, x98, x99, x100, x101, x102, x103, x104, x105, x106, x107, x108, x109, x110, x111, x112, x113, x114, x115, x116, x117, x118, x119] H) : vf.A20_16_10 E w0 Q x0 x1 x2 x3 x4 x5 x6 (.ptr (.new kx) 0) x8 x9 x10 x11 x12 x13 x14 x15 x16 x17 x18 x19 x20 x21 x22 x23 x24 x25 x26 x27 x28 x29 x30 x31 x32 x33 x34 x35 x36 x37 x38 x39 x40 x41 x42 x43 x44 x45 x46 x47 x48 x49 x50 x51 x52 x53 x54 x55 x56 x57 x58 x59 x60 x61 x62 x63 x64 x65 x66 x67 x68 x69 x70 x71 x72 x73 x74 x75 x76 x77 x78 x79 x80 x81 x82 x83 x84 x85 x86 x87 x88 x89 x90 x91 x92 x93 x94 x95 x96 x97 x98 x99 x100 x101 x102 x103 x104 x105 x106 x107 x108 x109 x110 x111 x112 x113 x114 x115 x116 x117 x118 x119 H0 := by
  unfold vf.A20_16_10
  have l1 : loadV Try.prog E H0 2 (.ptr (.new kx) 1) = some (.int .i64 a) := by rw [ld_2, loadCell_new E g]; rfl
  simp only [fa_24_1, oS, Nat.zero_add, l1, cv_2_5]
  refine ⟨by trivial, ?_⟩
  have S := St.begin (w := IntKind.u8.wrap a) F
  refine S.alloc8 fun k8 H1 S => ⟨by first | trivial | exact ⟨S.ld g, by trivial⟩, ?_⟩
  refine S.call0 fun f0 H1 S => ⟨by first | trivial | exact ⟨S.ld g, by trivial⟩, ?_⟩
  rw [build_81 (S.hm0 _ rfl), oS]
  refine S.alloc7 fun k7 H1 S => ⟨by first | trivial | exact ⟨S.ld g, by trivial⟩, ?_⟩
  refine S.call5 fun f5 H1 S => ⟨by first | trivial | exact ⟨S.ld g, by trivial⟩, ?_⟩
  rw [build_81 (S.hm5 _ rfl), oS]
  refine S.store7 fun _ H1 S => ⟨by first | trivial | exact ⟨S.ld g, by trivial⟩, ?_⟩
  refine S.store8 fun _ H1 S => ⟨by first | trivial | exact ⟨S.ld g, by trivial⟩, ?_⟩
  exact hQ _ _ _ _ _ _ _ _ _ _ ⟨_, _, _, _, rfl, rfl, S⟩
theorem arr_11 {x0 x1 x2 x3 x4 x5 x6 x8 x9 x10 x11 x12 x13 x14 x15 x16 x17 x18 x19 x20 x21 x22 x23 x24 x25 x26 x27 x28 x29 x30 x31 x32 x33 x34 x35 x36 x37 x38 x39 x40 x41 x42 x43 x44 x45 x46 x47 x48 x49 x50 x51 x52 x53 x54 x55 x56 x57 x58 x59 x60 x61 x62 x63 x64 x65 x66 x67 x68 x69 x70 x71 x72 x73 x74 x75 x76 x77 x78 x79 x80 x81 x82 x83 x84 x85 x86 x87 x88 x89 x90 x91 x92 x93 x94 x95 x96 x97 x98 x99 x100 x101 x102 x103 x104 x105 x106 x107 x108 x109 x110 x111 x112 x113 x114 x115 x116 x117 x118 x119 : AV} {kx : Nat} {op a b : Int} {av : AV} {pre : List Nat} (F : Fine H0) (g : H0.get kx = some (.cells [.int .u8 op, .int .i64 a, .int .i64 b, av] true pre)) {Q : List AV → AHeap → Prop}
    (hQ : ∀ v13 v14 u0 u1 u2 u3 u4 u5 u6 H, Two H0 H (IntKind.u8.wrap a) v13 v14 → Q [x0, x1, x2, x3, x4, x5, x6, (.ptr (.new kx) 0), x8, x9, x10, x11, x12, v13, v14, x15, x16, x17, x18, x19, x20, x21, x22, x23, x24, x25, x26, x27, x28, x29, x30, x31, x32, x33, x34, x35, x36, x37, x38, x39, x40, x41, x42, x43, x44, x45, x46, x47, x48, x49, x50, x51, x52, x53, x54, x55, x56, x57, x58, x59, x60, x61, x62, x63, x64, x65, u0, u1, u2, u3, u4, u5, u6, x73, x74, x75, x76, x77, x78, x79, x80, x81, x82, x83, x84, x85, x86, x87, x88, x89, x90, x91, x92, x93, x94, x95, x96, x97, x98, x99, x100, x101, x102, x103, x104, x105, x106, x107, x108, x109, x110, x111, x112, x113, x114, x115, x116, x117, x118, x119] H) : vf.A20_16_11 E w0 Q x0 x1 x2 x3 x4 x5 x6 (.ptr (.new kx) 0) x8 x9 x10 x11 x12 x13 x14 x15 x16 x17 x18 x19 x20 x21 x22 x23 x24 x25 x26 x27 x28 x29 x30 x31 x32 x33 x34 x35 x36 x37 x38 x39 x40 x41 x42 x43 x44 x45 x46 x47 x48 x49 x50 x51 x52 x53 x54 x55 x56 x57 x58 x59 x60 x61 x62 x63 x64 x65 x66 x67 x68 x69 x70 x71 x72 x73 x74 x75 x76 x77 x78 x79 x80 x81 x82 x83 x84 x85 x86 x87 x88 x89 x90 x91 x92 x93 x94 x95 x96 x97 x98 x99 x100 x101 x102 x103 x104 x105 x106 x107 x108 x109 x110 x111 x112 x113 x114 x115 x116 x117 x118 x119 H0 := by
  unfold vf.A20_16_11
  have l1 : loadV Try.prog E H0 2 (.ptr (.new kx) 1) = some (.int .i64 a) := by rw [ld_2, loadCell_new E g]; rfl
  simp only [fa_24_1, oS, Nat.zero_add, l1, cv_2_5]
  refine ⟨by trivial, ?_⟩
  have S := St.begin (w := IntKind.u8.wrap a) F
  refine S.alloc8 fun k8 H1 S => ⟨by first | trivial | exact ⟨S.ld g, by trivial⟩, ?_⟩
  refine S.alloc7 fun k7 H1 S => ⟨by first | trivial | exact ⟨S.ld g, by trivial⟩, ?_⟩
  refine S.call0 fun f0 H1 S => ⟨by first | trivial | exact ⟨S.ld g, by trivial⟩, ?_⟩
  rw [build_81 (S.hm0 _ rfl), oS]
  refine S.call5 fun f5 H1 S => ⟨by first | trivial | exact ⟨S.ld g, by trivial⟩, ?_⟩
  rw [build_81 (S.hm5 _ rfl), oS]
  refine S.store7 fun _ H1 S => ⟨by first | trivial | exact ⟨S.ld g, by trivial⟩, ?_⟩
  refine S.store8 fun _ H1 S => ⟨by first | trivial | exact ⟨S.ld g, by trivial⟩, ?_⟩
  exact hQ _ _ _ _ _ _ _ _ _ _ ⟨_, _, _, _, rfl, rfl, S⟩
end
end Go.Proofs.Ytcboaonbfgjmgaa.op

/-
  Reading an instruction: the region that draws its order with two places, in every arrangement.
-/
open Go.Proofs Go Go.Am
namespace Go.Proofs.Ytcboaonbfgjmgaa.op
open Go.Proofs.Ytcboaonbfgjmgaa.vb Go.Proofs.Ytcboaonbfgjmgaa.vw
set_option linter.unusedVariables false
set_option linter.unusedSimpArgs false
set_option maxRecDepth 100000

variable {E : Env} {w0 : World}

def edgesB (ops : Array Oper) : List (Nat × Nat) := (List.range ops.size).flatMap fun i => ((ops.getD i default).after.toList.filter fun e => Region.binds .any e).map fun e => (e.on, i)
theorem edgesB_ok {ops : Array Oper} {p : Nat → Nat} (h : ∀ i, i < ops.size → ∀ e ∈ (ops.getD i default).after, Region.binds .any e = true → p e.on < p i) {l : List (Nat × Nat)} (hl : (l.all fun xy => (edgesB ops).contains xy) = true) : ∀ xy ∈ l, p xy.1 < p xy.2 := by
  intro xy hxy
  have h1 := List.all_eq_true.1 hl xy hxy
  rw [List.contains_iff_mem] at h1
  obtain ⟨i, hi, h2⟩ := List.mem_flatMap.1 h1
  obtain ⟨e, he, rfl⟩ := List.mem_map.1 h2
  obtain ⟨he1, he2⟩ := List.mem_filter.1 he
  exact h i (List.mem_range.1 hi) e (Array.mem_def.2 he1) he2

theorem size16 : vf.O20_16.size = 11 := by kernel_rfl
theorem edges16 : (([(0, 5), (5, 9), (7, 9), (8, 9), (9, 10)] : List (Nat × Nat)).all fun xy => (edgesB vf.O20_16).contains xy) = true := by kernel_rfl
theorem guards16 : guardsIn vf.O20_16 = true := by kernel_rfl
theorem back16 : backB vf.O20_16 = true := by kernel_rfl
theorem perm16 : (vf.arrs20_16.all fun oe => permB vf.O20_16.size oe.1 oe.2) = true := by kernel_rfl
theorem R20_16_is : ve.R20_16 = .seq (.region 16 vf.O20_16 true) ve.R20_17 := by kernel_rfl

theorem cover16 (p : Nat → Nat) (h : ∀ i, i < vf.O20_16.size → ∀ e ∈ (vf.O20_16.getD i default).after, Region.binds .any e = true → p e.on < p i) (hinj : ∀ i j, i < vf.O20_16.size → j < vf.O20_16.size → p i = p j → i = j) : ∃ oe ∈ vf.arrs20_16, ∀ xy ∈ oe.2, p xy.1 < p xy.2 := by
  have e := edgesB_ok h edges16
  simp only [List.forall_mem_cons] at e
  obtain ⟨e1, e2, e3, e4, e5, _⟩ := e
  rw [size16] at hinj
  have ne : ∀ i j, i < 11 → j < 11 → i ≠ j → p i < p j ∨ p j < p i := fun i j hi hj hn => by
    have : ¬ p i = p j := fun e => hn (hinj i j hi hj e)
    omega
  simp only [vf.arrs20_16, List.mem_cons, List.not_mem_nil, or_false, exists_eq_or_imp, exists_eq_left, forall_eq_or_imp, forall_eq]
  rcases ne 7 0 (by decide) (by decide) (by decide) with a | a <;> rcases ne 7 5 (by decide) (by decide) (by decide) with b | b <;> rcases ne 8 0 (by decide) (by decide) (by decide) with c | c <;> rcases ne 8 5 (by decide) (by decide) (by decide) with d | d <;> rcases ne 7 8 (by decide) (by decide) (by decide) with f | f
  all_goals first
    | (exfalso; omega)
    | simp only [a, b, c, d, f, e1, e2, e3, e4, e5, true_and, and_true, true_or, or_true]

theorem r16_ok {H0 : AHeap} {x0 x1 x2 x3 x4 x5 x6 x8 x9 x10 x11 x12 x13 x14 x15 x16 x17 x18 x19 x20 x21 x22 x23 x24 x25 x26 x27 x28 x29 x30 x31 x32 x33 x34 x35 x36 x37 x38 x39 x40 x41 x42 x43 x44 x45 x46 x47 x48 x49 x50 x51 x52 x53 x54 x55 x56 x57 x58 x59 x60 x61 x62 x63 x64 x65 x66 x67 x68 x69 x70 x71 x72 x73 x74 x75 x76 x77 x78 x79 x80 x81 x82 x83 x84 x85 x86 x87 x88 x89 x90 x91 x92 x93 x94 x95 x96 x97 x98 x99 x100 x101 x102 x103 x104 x105 x106 x107 x108 x109 x110 x111 x112 x113 x114 x115 x116 x117 x118 x119 : AV} {kx : Nat} {op a b : Int} {av : AV} {pre : List Nat} (F : Fine H0) (g : H0.get kx = some (.cells [.int .u8 op, .int .i64 a, .int .i64 b, av] true pre)) {Q : AExit → List AV → AHeap → Prop}
    (hQ : ∀ v13 v14 u0 u1 u2 u3 u4 u5 u6 H, Two H0 H (IntKind.u8.wrap a) v13 v14 → CodeW Try.prog E w0 ve.R20_17 [x0, x1, x2, x3, x4, x5, x6, (.ptr (.new kx) 0), x8, x9, x10, x11, x12, v13, v14, x15, x16, x17, x18, x19, x20, x21, x22, x23, x24, x25, x26, x27, x28, x29, x30, x31, x32, x33, x34, x35, x36, x37, x38, x39, x40, x41, x42, x43, x44, x45, x46, x47, x48, x49, x50, x51, x52, x53, x54, x55, x56, x57, x58, x59, x60, x61, x62, x63, x64, x65, u0, u1, u2, u3, u4, u5, u6, x73, x74, x75, x76, x77, x78, x79, x80, x81, x82, x83, x84, x85, x86, x87, x88, x89, x90, x91, x92, x93, x94, x95, x96, x97, x98, x99, x100, x101, x102, x103, x104, x105, x106, x107, x108, x109, x110, x111, x112, x113, x114, x115, x116, x117, x118, x119] H Q) : CodeW Try.prog E w0 ve.R20_16 [x0, x1, x2, x3, x4, x5, x6, (.ptr (.new kx) 0), x8, x9, x10, x11, x12, x13, x14, x15, x16, x17, x18, x19, x20, x21, x22, x23, x24, x25, x26, x27, x28, x29, x30, x31, x32, x33, x34, x35, x36, x37, x38, x39, x40, x41, x42, x43, x44, x45, x46, x47, x48, x49, x50, x51, x52, x53, x54, x55, x56, x57, x58, x59, x60, x61, x62, x63, x64, x65, x66, x67, x68, x69, x70, x71, x72, x73, x74, x75, x76, x77, x78, x79, x80, x81, x82, x83, x84, x85, x86, x87, x88, x89, x90, x91, x92, x93, x94, x95, x96, x97, x98, x99, x100, x101, x102, x103, x104, x105, x106, x107, x108, x109, x110, x111, x112, x113, x114, x115, x116, x117, x118, x119] H0 Q := by
  rw [R20_16_is]
  refine codeW_seq ?_
  refine codeW_arr vf.mixed vf.arrs20_16 guards16 back16 perm16 cover16 fun oe hoe => ?_
  simp only [vf.arrs20_16, List.mem_cons, List.not_mem_nil, or_false] at hoe
  rcases hoe with rfl | rfl | rfl | rfl | rfl | rfl | rfl | rfl | rfl | rfl | rfl | rfl
  · exact vf.A20_16_0_ok (arr_0 F g hQ)
  · exact vf.A20_16_1_ok (arr_1 F g hQ)
  · exact vf.A20_16_2_ok (arr_2 F g hQ)
  · exact vf.A20_16_3_ok (arr_3 F g hQ)
  · exact vf.A20_16_4_ok (arr_4 F g hQ)
  · exact vf.A20_16_5_ok (arr_5 F g hQ)
  · exact vf.A20_16_6_ok (arr_6 F g hQ)
  · exact vf.A20_16_7_ok (arr_7 F g hQ)
  · exact vf.A20_16_8_ok (arr_8 F g hQ)
  · exact vf.A20_16_9_ok (arr_9 F g hQ)
  · exact vf.A20_16_10_ok (arr_10 F g hQ)
  · exact vf.A20_16_11_ok (arr_11 F g hQ)
end Go.Proofs.Ytcboaonbfgjmgaa.op

/-
  Decode: its end, and a switch's arms.
-/
open Go.Proofs Go Go.Am
namespace Go.Proofs.Ytcboaonbfgjmgaa.op
open Go.Proofs.Ytcboaonbfgjmgaa.vb Go.Proofs.Ytcboaonbfgjmgaa.vr Go.Proofs.Ytcboaonbfgjmgaa.vw Go.Proofs.Ytcboaonbfgjmgaa.vd Go.Proofs.Ytcboaonbfgjmgaa.vs
set_option linter.unusedVariables false
set_option linter.unusedSimpArgs false
set_option maxRecDepth 100000

variable {E : Env} {w0 : World}

theorem bld0_24 : buildA Try.prog 24 [] = some (.agg [.int .u8 0, .int .i64 0, .int .i64 0, .nilSlc]) := by kernel_rfl
theorem bld1_24 (n : Int) : buildA Try.prog 24 [(0, .int .u8 n)] = some (.agg [.int .u8 n, .int .i64 0, .int .i64 0, .nilSlc]) := by kernel_rfl
theorem bld2_49 (a b : Int) : buildA Try.prog 49 [(0, .int .i64 a), (1, .int .i64 b)] = some (.agg (armc (a, b))) := by kernel_rfl
theorem bs1_22 (H : AHeap) (a b : Int) : buildSliceA Try.prog H 22 1 [(0, .agg (armc (a, b)))] = some (.slc (.new H.next) 0 1 1 true 2, newCells H (armc (a, b))) := by kernel_rfl
theorem bld_88n (n : Int) : buildA Try.prog 88 [(0, .nilSlc), (1, .int .i64 n)] = some (.agg [.nilSlc, .int .i64 n, .int .i64 0]) := by kernel_rfl
theorem bld_88s (n : Int) (o : Am.Id) (i l c : Nat) (ex : Bool) (sz : Nat) : buildA Try.prog 88 [(0, .slc o i l c ex sz), (1, .int .i64 n)] = some (.agg [.slc o i l c ex sz, .int .i64 n, .int .i64 0]) := by kernel_rfl
theorem CodeAt.build {X : Nat → Prop} {H : AHeap} {cv : AV} {bs : List Int} (h : CodeAt E X H cv bs) (n : Int) : buildA Try.prog 88 [(0, cv), (1, .int .i64 n)] = some (.agg [cv, .int .i64 n, .int .i64 0]) := by
  obtain ⟨_, _, ⟨rfl, _⟩ | ⟨o, i, cap, ex, sz, rfl, _⟩⟩ := h
  · exact bld_88n _
  · exact bld_88s ..
theorem sz_2 {n : Int} : sizeA Try.prog 2 = some (AV.int .i64 n).cells.length := by kernel_rfl

/-- What Decode answers. -/
def DecQ (E : Env) (H0 : AHeap) (d : Dat × (Nat × Int)) (v : AV) (H' : AHeap) : Prop :=
  Stays H0 H' ∧ ∃ av, v = .tup [.agg [.int .u8 d.1.1, .int .i64 d.1.2.1, .int .i64 d.1.2.2.1, av], .int .i64 (d.2.1 : Int), .int .i64 d.2.2] ∧ ArmsAt E (fun k => H0.next ≤ k) H' av d.1.2.2.2

section
variable {H0 H H' : AHeap} {N k4 kx kr : Nat} {cv av : AV} {bs : List Int} {p : Nat} {op a b : Int} {arms : List (Int × Int)} {s : Nat × Int}

/-- Arms of one's own. -/
def Own (N : Nat) (H : AHeap) (av : AV) (arms : List (Int × Int)) : Prop :=
  (av = .nilSlc ∧ arms = []) ∨ ∃ k cap ex tl pre, av = .slc (.new k) 0 arms.length cap ex 2 ∧ N ≤ k ∧ H.get k = some (.cells (armsC arms ++ tl) true pre)
theorem Own.toAt (h : Own N H av arms) : ArmsAt E (fun k => N ≤ k) H av arms := by
  rcases h with h | ⟨k, cap, ex, tl, pre, e, hN, hg⟩
  · exact .inl h
  · refine .inr ⟨.new k, 0, cap, ex, 2, e, .inr ⟨k, _, pre, rfl, hN, hg, fun j x hj => ?_⟩⟩
    rw [Nat.zero_add]
    exact armsC_at hj
theorem Own.keep (h : Own N H av arms) (hk : Keeps (fun j => N ≤ j) H H') : Own N H' av arms := by
  rcases h with h | ⟨k, cap, ex, tl, pre, e, hN, hg⟩
  · exact .inl h
  · exact .inr ⟨k, cap, ex, tl, pre, e, hN, hk _ _ _ hN hg⟩
theorem armsC_snoc (arms : List (Int × Int)) (y : Int × Int) : armsC (arms ++ [y]) = armsC arms ++ armc y := by simp [armsC]
theorem Own.scalar (h : Own N H av arms) : Am.scalar av = true := by
  rcases h with ⟨rfl, _⟩ | ⟨k, cap, ex, tl, pre, rfl, _⟩ <;> rfl
theorem Own.cells (h : Own N H av arms) : av.cells = [av] := by
  rcases h with ⟨rfl, _⟩ | ⟨k, cap, ex, tl, pre, rfl, _⟩ <;> rfl

theorem arm_push (F : Fine H) (h : Own N H av arms) (hN : N ≤ H.next) (hl : arms.length < 2 ^ 40) {y : Int × Int} {q : Nat} {pre : List Nat} (gb : H.get q = some (.cells (armc y) true pre)) :
    ∃ r H', appendA Try.prog E H 22 av 22 (.slc (.new q) 0 1 1 true 2) = some (r, H') ∧ Own N H' r (arms ++ [y]) ∧ Keeps (fun j => j < N) H H' ∧ Fine H' ∧ H.next ≤ H'.next := by
  have hf : firstA E H 2 1 (.slc (.new q) 0 1 1 true 2) = some (armc y) := by
    unfold firstA
    simp only [rangeOr]
    rw [if_neg (by decide), loadRange_new E gb, if_pos (by simp [armc])]
    rfl
  rw [app_22_22]
  have e1 : lenOfA (.slc (.new q) 0 1 1 true 2) = some 1 := rfl
  rw [e1, Option.bind_some, hf, Option.bind_some]
  rcases h with ⟨rfl, rfl⟩ | ⟨k, cap, ex, tl, pre', rfl, hk, hg⟩
  · obtain ⟨a, b, c, d⟩ := F.newCells (armc y)
    refine ⟨.slc (.new H.next) 0 1 1 false 2, newCells H (armc y), ?_, .inr ⟨_, _, _, [], _, rfl, hN, by simpa [armsC] using a⟩, Keeps.of b, d, by omega⟩
    unfold growA
    rw [if_pos (by rfl)]
    simp only
    rw [if_neg (by decide), if_pos ⟨by decide, by decide⟩]
  · obtain ⟨H', q', e1, e2, e3, e4, e5⟩ := F.growN (E := E) (i := 0) (n := arms.length) (cap := cap) (sz := 2) (ex := ex) hg (by rw [List.length_append, armsC_length]; omega) (bytes := 16) (m := 1) (armc y) (by rfl) (by decide) (by rfl) ⟨by decide, by omega⟩
    refine ⟨_, H', e1, .inr ⟨_, _, _, [], q', by rw [List.length_append]; rfl, hN, ?_⟩, Keeps.but e4 (fun j h => by have h' : j < N := h; omega), e5, by omega⟩
    rw [e3, List.drop_zero, ← armsC_length, List.take_left' rfl, armsC_snoc, List.append_nil]

/-- The end. -/
theorem end_ok {xs4 : List AV} {pre4 prex : List Nat} (F0 : Fine H0) (F : Fine H) (hst : Stays H0 H) (h4 : H0.next ≤ k4) (g4 : H.get k4 = some (.cells xs4 true pre4)) (l4 : xs4.length = 4) (gx : H.get kx = some (.cells [.int .u8 op, .int .i64 a, .int .i64 b, av] true prex))
    (hr : RdAt H kr cv s) (hxk : kx ≠ k4) (hrk : kr ≠ k4) (hA : ArmsAt E (fun k => H0.next ≤ k ∧ k ≠ k4) H av arms) (ha : av.cells = [av] ∧ Am.scalar av = true) (hl : lay (bs.getD p 0) ≠ none) (hd : decX bs p = ((op, a, b, arms), s))
    {x0 x1 x2 x3 x5 x6 x8 x9 x11 x12 x13 x14 x15 x16 x17 x18 x19 x20 x21 x22 x23 x24 x25 x26 x27 x28 x29 x30 x31 x32 x33 x34 x35 x36 x37 x38 x39 x40 x41 x42 x43 x44 x45 x46 x47 x48 x49 x50 x51 x52 x53 x54 x55 x56 x57 x58 x59 x60 x61 x62 x63 x64 x65 x66 x67 x68 x69 x70 x71 x72 x73 x74 x75 x76 x77 x78 x79 x80 x81 x82 x83 x84 x85 x86 x87 x88 x89 x90 x91 x92 x93 x94 x95 x96 x97 x98 x99 x100 x101 x102 x103 x104 x105 x106 x107 x108 x109 x110 x111 x112 x113 x114 x115 x116 x117 x118 x119 : AV} :
    ve.P20_23 E w0 (DecQ E H0 (decS bs p)) x0 x1 x2 x3 (.ptr (.new k4) 0) x5 x6 (.ptr (.new kx) 0) x8 x9 (.ptr (.new kr) 0) x11 x12 x13 x14 x15 x16 x17 x18 x19 x20 x21 x22 x23 x24 x25 x26 x27 x28 x29 x30 x31 x32 x33 x34 x35 x36 x37 x38 x39 x40 x41 x42 x43 x44 x45 x46 x47 x48 x49 x50 x51 x52 x53 x54 x55 x56 x57 x58 x59 x60 x61 x62 x63 x64 x65 x66 x67 x68 x69 x70 x71 x72 x73 x74 x75 x76 x77 x78 x79 x80 x81 x82 x83 x84 x85 x86 x87 x88 x89 x90 x91 x92 x93 x94 x95 x96 x97 x98 x99 x100 x101 x102 x103 x104 x105 x106 x107 x108 x109 x110 x111 x112 x113 x114 x115 x116 x117 x118 x119 H := by
  unfold ve.P20_23
  obtain ⟨r0, r1, r2⟩ := hr.loads (E := E)
  simp only [nP, oS, fa_88_2, fa_88_1, Nat.zero_add, r2, r1, nev_28]
  have hdec : decS bs p = if s.2 ≠ 0 then (zDat, (0, s.2)) else ((op, a, b, arms), s) := by
    unfold decS
    rw [if_neg hl, hd]
  have hz : AV.cells (.agg [.int .u8 0, .int .i64 0, .int .i64 0, .nilSlc]) = [.int .u8 0, .int .i64 0, .int .i64 0, .nilSlc] := rfl
  by_cases he : s.2 = 0
  · have e1 : (s.2 != 0) = false := by simp [he]
    rw [e1, cF]
    have lx : loadV Try.prog E H 24 (.ptr (.new kx) 0) = some (.agg [.int .u8 op, .int .i64 a, .int .i64 b, av]) := by rw [ld_24, loadRange_new E gx, if_pos (by simp)]; rfl
    rw [lx, oS]
    refine ⟨by trivial, by trivial, ?_⟩
    have hc : AV.cells (.agg [.int .u8 op, .int .i64 a, .int .i64 b, av]) = [.int .u8 op, .int .i64 a, .int .i64 b, av] := rfl
    obtain ⟨H2, c1, c2, c3, c4, F2⟩ := F.stores g4 (n := 0) (vs := [.int .u8 op, .int .i64 a, .int .i64 b, av]) (by simp) (by simp [l4]) (by simp only [List.all_cons, List.all_nil, ha.2]; rfl)
    rw [setMany_all (by rw [l4]; rfl)] at c2
    refine storesW sz_24 c1 ?_
    have r1' : loadV Try.prog E H2 3 (.ptr (.new kr) 1) = some (.int .i64 (s.1 : Int)) := (hr.keep (X := fun j => j ≠ k4) (Keeps.but c3 fun _ h => h) hrk).loads.2.1
    refine ⟨⟨r1', by trivial⟩, ?_⟩
    show optW (loadVarA Try.prog E H2 24 (.new k4) 0) _
    rw [lv_24, loadRange_new E c2, if_pos (by simp), Option.bind_some, oS]
    rw [if_neg (by simp [he])] at hdec
    rw [hdec]
    refine ⟨fun k al pr hk => c3 _ _ _ (fun e => by have := F0.lt hk; omega) (hst _ _ _ hk), av, ?_, ?_⟩
    · simp [he]
    · exact (hA.keep (Keeps.but c3 fun j h => h.2)).less F2 fun j _ h => h.1
  · have e1 : (s.2 != 0) = true := by simp [he]
    rw [e1, cT, bld0_24, oS]
    refine ⟨by trivial, ?_⟩
    obtain ⟨H2, c1, c2, c3, c4, F2⟩ := F.stores g4 (n := 0) (vs := [.int .u8 0, .int .i64 0, .int .i64 0, .nilSlc]) (by simp) (by simp [l4]) (by rfl)
    rw [setMany_all (by rw [l4]; rfl)] at c2
    refine storesW sz_24 c1 ?_
    have r2' : loadV Try.prog E H2 28 (.ptr (.new kr) 2) = some (.int .i64 s.2) := (hr.keep (X := fun j => j ≠ k4) (Keeps.but c3 fun _ h => h) hrk).loads.2.2
    refine ⟨⟨r2', by trivial⟩, ?_⟩
    show optW (loadVarA Try.prog E H2 24 (.new k4) 0) _
    rw [lv_24, loadRange_new E c2, if_pos (by simp), Option.bind_some, oS]
    rw [if_pos he] at hdec
    rw [hdec]
    exact ⟨fun k al pr hk => c3 _ _ _ (fun e => by have := F0.lt hk; omega) (hst _ _ _ hk), .nilSlc, rfl, .inl ⟨rfl, rfl⟩⟩
end
end Go.Proofs.Ytcboaonbfgjmgaa.op

/-
  Decode: a switch's arms.
-/
open Go.Proofs Go Go.Am
namespace Go.Proofs.Ytcboaonbfgjmgaa.op
open Go.Proofs.Ytcboaonbfgjmgaa.vb Go.Proofs.Ytcboaonbfgjmgaa.vr Go.Proofs.Ytcboaonbfgjmgaa.vw Go.Proofs.Ytcboaonbfgjmgaa.vd Go.Proofs.Ytcboaonbfgjmgaa.vs
set_option linter.unusedVariables false
set_option linter.unusedSimpArgs false
set_option maxRecDepth 100000

variable {E : Env} {w0 : World}

/-- A row's live places. -/
def RowQ (k4 kx kr : Nat) (T : List AV) : Prop := T.length = 120 ∧ T.getD 4 undefA = .ptr (.new k4) 0 ∧ T.getD 7 undefA = .ptr (.new kx) 0 ∧ T.getD 10 undefA = .ptr (.new kr) 0
def Fix (kx kr N : Nat) (j : Nat) : Prop := j ≠ kx ∧ j ≠ kr ∧ j < N

section
variable {H0 H1 H H' : AHeap} {N k4 kx kr : Nat} {cv av : AV} {bs : List Int} {p : Nat} {op a b : Int} {arms : List (Int × Int)} {s : Nat × Int} {Q : AExit → List AV → AHeap → Prop}

theorem BoxAt.loadR {X : Nat → Prop} {k : Nat} {f : Fd} (h : BoxAt X H k f) : ∃ fv, loadV Try.prog E H 81 (.ptr (.new k) 0) = some (.agg [.int .i64 (f.size : Int), fv]) ∧ MayAt X H fv f.lo f.hi := h.load

theorem fix_may {X : Nat → Prop} {fv : AV} {lo hi : Int} (hX : ∀ j, X j → j ≠ kr) (h : MayAt X H fv lo hi) (F : Fine H) : MayAt (fun j => j ≠ kr) H fv lo hi := h.less F fun j _ hj => hX j hj

/-- The last place. -/
theorem last_ok {k13 : Nat} {prex : List Nat} (F : Fine H) (hN : N ≤ H.next) (hxr : kx ≠ kr) (hx4 : kx < N) (hc : CodeAt E (Fix kx kr N) H cv bs) (hb : BoxAt (Fix kx kr N) H k13 fLeap)
    (gx : H.get kx = some (.cells [.int .u8 op, .int .i64 a, .int .i64 b, av] true prex)) (hr : RdAt H kr cv s) (hkr : kr < N) (hs : s.1 ≤ bs.length) (hA : Own N H av arms)
    (hQ : ∀ T H', RowQ k4 kx kr T → Fine H' → Keeps (Fix kx kr N) H H' → N ≤ H'.next → (∃ pre, H'.get kx = some (.cells [.int .u8 op, .int .i64 a, .int .i64 (rdS bs fLeap s).1, av] true pre)) → RdAt H' kr cv (rdS bs fLeap s).2 → Own N H' av arms → Q .normal T H') {x0 x1 x2 x3 x5 x6 x8 x9 x11 x12 x14 x15 x16 x17 x18 x19 x20 x21 x22 x23 x24 x25 x26 x27 x28 x29 x30 x31 x32 x33 x34 x35 x36 x37 x38 x39 x40 x41 x42 x43 x44 x45 x46 x47 x48 x49 x50 x51 x52 x53 x54 x55 x56 x57 x58 x59 x60 x61 x62 x63 x64 x65 x66 x67 x68 x69 x70 x71 x72 x73 x74 x75 x76 x77 x78 x79 x80 x81 x82 x83 x84 x85 x86 x87 x88 x89 x90 x91 x92 x93 x94 x95 x96 x97 x98 x99 x100 x101 x102 x103 x104 x105 x106 x107 x108 x109 x110 x111 x112 x113 x114 x115 x116 x117 x118 x119 : AV} :
    ve.P20_22 E w0 Q x0 x1 x2 x3 (.ptr (.new k4) 0) x5 x6 (.ptr (.new kx) 0) x8 x9 (.ptr (.new kr) 0) x11 x12 (.ptr (.new k13) 0) x14 x15 x16 x17 x18 x19 x20 x21 x22 x23 x24 x25 x26 x27 x28 x29 x30 x31 x32 x33 x34 x35 x36 x37 x38 x39 x40 x41 x42 x43 x44 x45 x46 x47 x48 x49 x50 x51 x52 x53 x54 x55 x56 x57 x58 x59 x60 x61 x62 x63 x64 x65 x66 x67 x68 x69 x70 x71 x72 x73 x74 x75 x76 x77 x78 x79 x80 x81 x82 x83 x84 x85 x86 x87 x88 x89 x90 x91 x92 x93 x94 x95 x96 x97 x98 x99 x100 x101 x102 x103 x104 x105 x106 x107 x108 x109 x110 x111 x112 x113 x114 x115 x116 x117 x118 x119 H := by
  unfold ve.P20_22
  obtain ⟨fv, l1, l2⟩ := hb.load (E := E)
  rw [l1, oS]
  have hn : ∀ j, Fix kx kr N j → j ≠ kr := fun j h => h.2.1
  refine (read_ok F (hc.less F fun j _ h => hn j h) hr hs (f := fLeap) (by decide) (by decide) (fix_may hn l2 F)).toW.use ?_
  rintro v H2 ⟨rfl, r2, k2⟩ F2 n2
  rw [fa_24_2, oS, Nat.zero_add]
  have gx2 := k2 _ _ _ (show kx ≠ kr from hxr) gx
  obtain ⟨H3, p1, p2, p3, p4, F3⟩ := F2.store gx2 (n := 2) (x := .int .i64 (rdS bs fLeap s).1) (by simp) rfl
  refine storesW sz_2 p1 ?_
  have k3 : Keeps (fun j => j ≠ kx) H2 H3 := Keeps.but p3 fun _ h => h
  refine hQ _ _ ⟨rfl, rfl, rfl, rfl⟩ F3 (Keeps.trans (k2.less hn) k3 F fun j _ h => h.1) (by omega) ⟨[], p2⟩ (r2.keep k3 (Ne.symm hxr)) ?_
  have hN' : Keeps (fun j => N ≤ j) H H2 := k2.less fun j h => by have h' : N ≤ j := h; omega
  exact (hA.keep hN').keep (k3.less fun j h => by have h' : N ≤ j := h; omega)

/-- The arms. -/
theorem arms_rd {w : Int} {k13 k14 : Nat} {prex : List Nat} (F : Fine H) (hN : N ≤ H.next) (hxr : kx ≠ kr) (hxN : kx < N) (hkr : kr < N) (hc : CodeAt E (Fix kx kr N) H cv bs) (hb : BoxAt (Fix kx kr N) H k13 fLeap) (hb2 : BoxAt (Fix kx kr N) H k14 (vF w)) (h13 : Fix kx kr N k13) (h14 : Fix kx kr N k14)
    (gx : H.get kx = some (.cells [.int .u8 op, .int .i64 a, .int .i64 b, .nilSlc] true prex)) (hr : RdAt H kr cv s) (hs : s.1 ≤ bs.length) {m0 : Nat} (hm0 : m0 ≤ 65535)
    (hQ : ∀ T H' av arms, RowQ k4 kx kr T → Fine H' → Keeps (Fix kx kr N) H H' → N ≤ H'.next → (∃ pre, H'.get kx = some (.cells [.int .u8 op, .int .i64 a, .int .i64 (rdS bs fLeap (rdArms bs w m0 s []).2).1, av] true pre)) → RdAt H' kr cv (rdS bs fLeap (rdArms bs w m0 s []).2).2 → Own N H' av arms → arms = (rdArms bs w m0 s []).1 → Q .normal T H') {x0 x1 x2 x3 x5 x6 x8 x9 x11 x12 x16 x17 x18 x19 x20 x21 x22 x23 x24 x25 x26 x27 x28 x29 x30 x31 x32 x33 x34 x35 x36 x37 x38 x39 x40 x41 x42 x43 x44 x45 x46 x47 x48 x49 x50 x51 x52 x53 x54 x55 x56 x57 x58 x59 x60 x61 x62 x63 x64 x65 x66 x67 x68 x69 x70 x71 x72 x73 x74 x75 x76 x77 x78 x79 x80 x81 x82 x83 x84 x85 x86 x87 x88 x89 x90 x91 x92 x93 x94 x95 x96 x97 x98 x99 x100 x101 x102 x103 x104 x105 x106 x107 x108 x109 x110 x111 x112 x113 x114 x115 x116 x117 x118 x119 : AV} :
    CodeW Try.prog E w0 (.loop ve.L20_0) [x0, x1, x2, x3, (.ptr (.new k4) 0), x5, x6, (.ptr (.new kx) 0), x8, x9, (.ptr (.new kr) 0), x11, x12, (.ptr (.new k13) 0), (.ptr (.new k14) 0), (.int .i64 (m0 : Int)), x16, x17, x18, x19, x20, x21, x22, x23, x24, x25, x26, x27, x28, x29, x30, x31, x32, x33, x34, x35, x36, x37, x38, x39, x40, x41, x42, x43, x44, x45, x46, x47, x48, x49, x50, x51, x52, x53, x54, x55, x56, x57, x58, x59, x60, x61, x62, x63, x64, x65, x66, x67, x68, x69, x70, x71, x72, x73, x74, x75, x76, x77, x78, x79, x80, x81, x82, x83, x84, x85, x86, x87, x88, x89, x90, x91, x92, x93, x94, x95, x96, x97, x98, x99, x100, x101, x102, x103, x104, x105, x106, x107, x108, x109, x110, x111, x112, x113, x114, x115, x116, x117, x118, x119] H (ve.K20_0 E w0 Q) := by
  have hn : ∀ j, Fix kx kr N j → j ≠ kr := fun j h => h.2.1
  refine ve.loop20_0 (I := fun n t4 t5 t6 t7 t10 t13 t14 t15 H' => t4 = .ptr (.new k4) 0 ∧ t7 = .ptr (.new kx) 0 ∧ t10 = .ptr (.new kr) 0 ∧ t13 = .ptr (.new k13) 0 ∧ t14 = .ptr (.new k14) 0 ∧ t15 = .int .i64 (n : Int) ∧
      ∃ s' av acc pre, Fine H' ∧ N ≤ H'.next ∧ Keeps (Fix kx kr N) H H' ∧ H'.get kx = some (.cells [.int .u8 op, .int .i64 a, .int .i64 b, av] true pre) ∧ RdAt H' kr cv s' ∧ s'.1 ≤ bs.length ∧ Own N H' av acc ∧ acc.length + n ≤ 65535 ∧ rdArms bs w n s' acc = rdArms bs w m0 s []) ?_ (n := m0)
    ⟨rfl, rfl, rfl, rfl, rfl, rfl, s, .nilSlc, [], prex, F, hN, Keeps.refl, gx, hr, hs, .inl ⟨rfl, rfl⟩, by simpa using hm0, rfl⟩
  rintro n _ _ _ _ _ _ _ _ H2 ⟨rfl, rfl, rfl, rfl, rfl, rfl, s', av, acc, pre, F2, n2, k2, g2, r2, hs', hA, hlen, hrd⟩
  intros
  unfold ve.B20_0
  obtain ⟨q0, q1, q2⟩ := r2.loads (E := E)
  have hc2 := hc.keep k2
  -- out of the loop
  have out : rdArms bs w n s' acc = (acc, s') → ∀ {y0 y1 y2 y3 y5 y6 y8 y9 y11 y12 y14 y15 y16 y17 y18 y19 y20 y21 y22 y23 y24 y25 y26 y27 y28 y29 y30 y31 y32 y33 y34 y35 y36 y37 y38 y39 y40 y41 y42 y43 y44 y45 y46 y47 y48 y49 y50 y51 y52 y53 y54 y55 y56 y57 y58 y59 y60 y61 y62 y63 y64 y65 y66 y67 y68 y69 y70 y71 y72 y73 y74 y75 y76 y77 y78 y79 y80 y81 y82 y83 y84 y85 y86 y87 y88 y89 y90 y91 y92 y93 y94 y95 y96 y97 y98 y99 y100 y101 y102 y103 y104 y105 y106 y107 y108 y109 y110 y111 y112 y113 y114 y115 y116 y117 y118 y119 : AV}, ve.P20_22 E w0 Q y0 y1 y2 y3 (.ptr (.new k4) 0) y5 y6 (.ptr (.new kx) 0) y8 y9 (.ptr (.new kr) 0) y11 y12 (.ptr (.new k13) 0) y14 y15 y16 y17 y18 y19 y20 y21 y22 y23 y24 y25 y26 y27 y28 y29 y30 y31 y32 y33 y34 y35 y36 y37 y38 y39 y40 y41 y42 y43 y44 y45 y46 y47 y48 y49 y50 y51 y52 y53 y54 y55 y56 y57 y58 y59 y60 y61 y62 y63 y64 y65 y66 y67 y68 y69 y70 y71 y72 y73 y74 y75 y76 y77 y78 y79 y80 y81 y82 y83 y84 y85 y86 y87 y88 y89 y90 y91 y92 y93 y94 y95 y96 y97 y98 y99 y100 y101 y102 y103 y104 y105 y106 y107 y108 y109 y110 y111 y112 y113 y114 y115 y116 y117 y118 y119 H2 := by
    intro e
    intros
    refine last_ok F2 n2 hxr hxN hc2 ((hb.keep k2 h13)) g2 r2 hkr hs' hA ?_
    intro T H' hT F' K' N' gx' r' o'
    rw [e] at hrd
    rw [← hrd] at hQ
    exact hQ T H' av acc hT F' (Keeps.trans k2 K' F fun _ _ h => h) N' gx' r' o' rfl
  rw [bin_gtr, oS]
  by_cases hn0 : n = 0
  · subst hn0
    rw [dF (by decide)]
    simp only [wB, bft, vF, oS, pB, Bool.false_eq_true, if_false, cF]
    exact ve.P20_22_ok (out rfl)
  rw [dT (show (n : Int) > 0 by omega)]
  simp only [wB, btt, vT, oS, pB, if_true, nP, fa_88_2, Nat.zero_add, q2, eqv_28]
  by_cases he : s'.2 = 0
  case neg =>
    rw [show (s'.2 == 0) = false by simp [he], cF]
    refine ve.P20_22_ok (out ?_)
    obtain ⟨n', rfl⟩ : ∃ n', n = n' + 1 := ⟨n - 1, by omega⟩
    rw [rdArms, if_pos he]
  rw [show (s'.2 == 0) = true by simp [he], cT]
  obtain ⟨n', rfl⟩ : ∃ n', n = n' + 1 := ⟨n - 1, by omega⟩
  rw [rdArms, if_neg (by simp [he])] at hrd
  -- the value
  obtain ⟨fv, l1, l2⟩ := (hb2.keep k2 h14).load (E := E)
  rw [l1, oS]
  refine (read_ok F2 (hc2.less F2 fun j _ h => hn j h) r2 hs' (f := vF w) (by show 1 ≤ 8; omega) (by show 8 ≤ 8; omega) (fix_may hn l2 F2)).toW.use ?_
  rintro v H3 ⟨rfl, r3, k3⟩ F3 n3
  have k3' : Keeps (Fix kx kr N) H H3 := Keeps.trans k2 (k3.less hn) F fun _ _ h => h
  have g3 := k3 _ _ _ (show kx ≠ kr from hxr) g2
  have A3 : Own N H3 av acc := hA.keep (k3.less fun j h => by have h' : N ≤ j := h; omega)
  obtain ⟨fv3, m1, m2⟩ := (hb.keep k3' h13).load (E := E)
  have lx : ∀ {G : AHeap} {pre : List Nat}, G.get kx = some (.cells [.int .u8 op, .int .i64 a, .int .i64 b, av] true pre) → loadV Try.prog E G 22 (.ptr (.new kx) 3) = some av := fun g => by rw [ld_22, loadCell_new E g]; rfl
  simp only [fa_24_3, oS, Nat.zero_add, lx g3, m1]
  refine ⟨by trivial, by trivial, ?_⟩
  refine (read_ok F3 ((hc.keep k3').less F3 fun j _ h => hn j h) r3 (rdS_le hs') (f := fLeap) (by decide) (by decide) (fix_may hn m2 F3)).use ?_
  rintro v H4 ⟨rfl, r4, k4'⟩ F4 n4
  have k4k : Keeps (Fix kx kr N) H H4 := Keeps.trans k3' (k4'.less hn) F fun _ _ h => h
  have g4 := k4' _ _ _ (show kx ≠ kr from hxr) g3
  have A4 : Own N H4 av acc := A3.keep (k4'.less fun j h => by have h' : N ≤ j := h; omega)
  refine ⟨⟨lx g4, by trivial⟩, ?_⟩
  rw [bld2_49, oS, bs1_22, o2S]
  obtain ⟨y, hy⟩ : ∃ y : Int × Int, y = ((rdS bs (vF w) s').1, (rdS bs fLeap (rdS bs (vF w) s').2).1) := ⟨_, rfl⟩
  rw [← hy] at hrd ⊢
  obtain ⟨a1, a2, a3, F5⟩ := F4.newCells (armc y)
  have g5 := a2 _ _ _ g4
  refine ⟨⟨lx g5, by trivial⟩, ?_⟩
  have A5 : Own N (newCells H4 (armc y)) av acc := A4.keep (Keeps.of a2)
  obtain ⟨r, H6, e6, A6, k6, F6, n6⟩ := arm_push F5 A5 (by omega) (by omega) a1 (E := E)
  rw [e6, o2S]
  refine ⟨by trivial, ?_⟩
  have g6 := k6 _ _ _ (show kx < N from hxN) g5
  obtain ⟨H7, p1, p2, p3, p4, F7⟩ := F6.store g6 (n := 3) (x := r) (by simp) A6.scalar
  refine storesW (t := 22) (by rw [A6.cells]; exact sz_22) (by rw [A6.cells]; exact p1) ?_
  refine ⟨by trivial, ?_⟩
  have k7 : Keeps (fun j => j ≠ kx) H6 H7 := Keeps.but p3 fun _ h => h
  rw [bin_sub, oS, wrap_i64 (by omega) (by omega)]
  have k57 : Keeps (Fix kx kr N) H4 H7 := Keeps.trans (Keeps.trans (Keeps.of a2 : Keeps (Fix kx kr N) _ _) k6 F4 fun j _ h => h.2.2) k7 F4 fun j _ h => h.1
  have r7 : RdAt H7 kr cv (rdS bs fLeap (rdS bs (vF w) s').2).2 := by
    obtain ⟨pre, hg⟩ := r4
    exact ⟨pre, k7 _ _ _ (show kr ≠ kx from Ne.symm hxr) (k6 _ _ _ (show kr < N from hkr) (a2 _ _ _ hg))⟩
  refine ⟨n', by omega, rfl, rfl, rfl, rfl, rfl, rfl, by simp, _, r, acc ++ [y], [], F7, by omega, Keeps.trans k4k k57 F fun _ _ h => h, p2, r7, rdS_le (rdS_le hs'), A6.keep (k7.less fun j h => by have h' : N ≤ j := h; omega), by simp; omega, hrd⟩
end
end Go.Proofs.Ytcboaonbfgjmgaa.op

/-
  Decode: behind the fields.
-/
open Go.Proofs Go Go.Am
namespace Go.Proofs.Ytcboaonbfgjmgaa.op
open Go.Proofs.Ytcboaonbfgjmgaa.vb Go.Proofs.Ytcboaonbfgjmgaa.vr Go.Proofs.Ytcboaonbfgjmgaa.vw Go.Proofs.Ytcboaonbfgjmgaa.vd Go.Proofs.Ytcboaonbfgjmgaa.vs
set_option linter.unusedVariables false
set_option linter.unusedSimpArgs false
set_option maxRecDepth 100000

variable {E : Env} {w0 : World}

section
variable {H0 H1 H H' : AHeap} {N k4 kx kr : Nat} {cv av : AV} {bs : List Int} {p : Nat} {op a b : Int} {arms : List (Int × Int)} {s : Nat × Int} {Q : AExit → List AV → AHeap → Prop}

theorem rdS_in {f : Fd} (h0 : f.lo ≤ 0 ∧ 0 ≤ f.hi) : f.lo ≤ (rdS bs f s).1 ∧ (rdS bs f s).1 ≤ f.hi := by
  unfold rdS
  split
  · exact h0
  split
  · exact h0
  · split
    · rename_i n hn
      unfold rdN at hn
      simp only at hn
      generalize (if f.may (IntKind.i64.wrap (leN ((bs.drop s.1).take f.size) : Nat)) = false ∧ f.size < 8 then IntKind.i64.wrap (leN ((bs.drop s.1).take f.size) : Nat) - 2 ^ (8 * f.size) else IntKind.i64.wrap (leN ((bs.drop s.1).take f.size) : Nat)) = m at hn
      by_cases hm' : f.may m = true
      · rw [if_pos hm'] at hn
        rw [← Option.some.inj hn]
        exact of_decide_eq_true hm'
      · rw [if_neg hm'] at hn; cases hn
    · exact h0

theorem p17_ok {k13 k14 : Nat} {prex : List Nat} (F : Fine H) (hN : N = H.next) (hxr : kx ≠ kr) (hxN : kx < N) (hkr : kr < N) (hc : CodeAt E (Fix kx kr N) H cv bs) (hb : BoxAt (Fix kx kr N) H k13 fLeap) (hb2 : BoxAt (Fix kx kr N) H k14 (vF (IntKind.u8.wrap a))) (h13 : Fix kx kr N k13) (h14 : Fix kx kr N k14)
    (gx : H.get kx = some (.cells [.int .u8 op, .int .i64 a, .int .i64 b, .nilSlc] true prex)) (hr : RdAt H kr cv s) (hs : s.1 ≤ bs.length)
    (hQ : ∀ T H' av arms b' s', RowQ k4 kx kr T → Fine H' → Keeps (Fix kx kr N) H H' → N ≤ H'.next → (∃ pre, H'.get kx = some (.cells [.int .u8 op, .int .i64 a, .int .i64 b', av] true pre)) → RdAt H' kr cv s' → Own N H' av arms → decSw bs op a s = ((op, a, b', arms), s') → Q .normal T H') {x0 x1 x2 x3 x5 x6 x8 x9 x11 x12 x15 x16 x17 x18 x19 x20 x21 x22 x23 x24 x25 x26 x27 x28 x29 x30 x31 x32 x33 x34 x35 x36 x37 x38 x39 x40 x41 x42 x43 x44 x45 x46 x47 x48 x49 x50 x51 x52 x53 x54 x55 x56 x57 x58 x59 x60 x61 x62 x63 x64 x65 x66 x67 x68 x69 x70 x71 x72 x73 x74 x75 x76 x77 x78 x79 x80 x81 x82 x83 x84 x85 x86 x87 x88 x89 x90 x91 x92 x93 x94 x95 x96 x97 x98 x99 x100 x101 x102 x103 x104 x105 x106 x107 x108 x109 x110 x111 x112 x113 x114 x115 x116 x117 x118 x119 : AV} :
    ve.P20_17 E w0 Q x0 x1 x2 x3 (.ptr (.new k4) 0) x5 x6 (.ptr (.new kx) 0) x8 x9 (.ptr (.new kr) 0) x11 x12 (.ptr (.new k13) 0) (.ptr (.new k14) 0) x15 x16 x17 x18 x19 x20 x21 x22 x23 x24 x25 x26 x27 x28 x29 x30 x31 x32 x33 x34 x35 x36 x37 x38 x39 x40 x41 x42 x43 x44 x45 x46 x47 x48 x49 x50 x51 x52 x53 x54 x55 x56 x57 x58 x59 x60 x61 x62 x63 x64 x65 x66 x67 x68 x69 x70 x71 x72 x73 x74 x75 x76 x77 x78 x79 x80 x81 x82 x83 x84 x85 x86 x87 x88 x89 x90 x91 x92 x93 x94 x95 x96 x97 x98 x99 x100 x101 x102 x103 x104 x105 x106 x107 x108 x109 x110 x111 x112 x113 x114 x115 x116 x117 x118 x119 H := by
  unfold ve.P20_17
  have hn : ∀ j, Fix kx kr N j → j ≠ kr := fun j h => h.2.1
  refine (between_ok F).toW.use ?_
  rintro v H1 ⟨m1, s1⟩ F1 n1
  rw [build_81 m1, oS]
  refine (read_ok F1 (((hc.less F fun j _ h => hn j h).keep (Keeps.of s1))) (hr.keep (X := All) (Keeps.of s1) trivial) hs (f := fIx) (by decide) (by decide) (m1.less F1 fun j _ hj => by omega)).toW.use ?_
  rintro v H2 ⟨rfl, r2, k2⟩ F2 n2
  have hi := rdS_in (bs := bs) (f := fIx) (s := s) (by decide)
  have hi0 : 0 ≤ (rdS bs fIx s).1 ∧ (rdS bs fIx s).1 ≤ 65535 := hi
  have k02 : Keeps (Fix kx kr N) H H2 := Keeps.trans (Keeps.of s1 : Keeps (Fix kx kr N) H H1) (k2.less hn) F fun _ _ h => h
  have hm : (rdS bs fIx s).1 = (((rdS bs fIx s).1.toNat : Nat) : Int) := by omega
  rw [hm]
  have gx2 := k2 _ _ _ (show kx ≠ kr from hxr) (s1 _ _ _ gx)
  refine arms_rd (w := IntKind.u8.wrap a) F2 (by omega) hxr hxN hkr (hc.keep k02) (hb.keep k02 h13) (hb2.keep k02 h14) h13 h14 gx2 r2 (rdS_le hs) (by omega) ?_
  intro T H' av' arms' hT F' K' N' gx' r' o' e'
  refine hQ T H' av' arms' _ _ hT F' (Keeps.trans k02 K' F fun _ _ h => h) N' gx' r' o' ?_
  rw [e']
  rfl

theorem row23 {T : List AV} (hT : RowQ k4 kx kr T) {Q : AV → AHeap → Prop} (hp : ∀ {x0 x1 x2 x3 x5 x6 x8 x9 x11 x12 x13 x14 x15 x16 x17 x18 x19 x20 x21 x22 x23 x24 x25 x26 x27 x28 x29 x30 x31 x32 x33 x34 x35 x36 x37 x38 x39 x40 x41 x42 x43 x44 x45 x46 x47 x48 x49 x50 x51 x52 x53 x54 x55 x56 x57 x58 x59 x60 x61 x62 x63 x64 x65 x66 x67 x68 x69 x70 x71 x72 x73 x74 x75 x76 x77 x78 x79 x80 x81 x82 x83 x84 x85 x86 x87 x88 x89 x90 x91 x92 x93 x94 x95 x96 x97 x98 x99 x100 x101 x102 x103 x104 x105 x106 x107 x108 x109 x110 x111 x112 x113 x114 x115 x116 x117 x118 x119 : AV}, ve.P20_23 E w0 Q x0 x1 x2 x3 (.ptr (.new k4) 0) x5 x6 (.ptr (.new kx) 0) x8 x9 (.ptr (.new kr) 0) x11 x12 x13 x14 x15 x16 x17 x18 x19 x20 x21 x22 x23 x24 x25 x26 x27 x28 x29 x30 x31 x32 x33 x34 x35 x36 x37 x38 x39 x40 x41 x42 x43 x44 x45 x46 x47 x48 x49 x50 x51 x52 x53 x54 x55 x56 x57 x58 x59 x60 x61 x62 x63 x64 x65 x66 x67 x68 x69 x70 x71 x72 x73 x74 x75 x76 x77 x78 x79 x80 x81 x82 x83 x84 x85 x86 x87 x88 x89 x90 x91 x92 x93 x94 x95 x96 x97 x98 x99 x100 x101 x102 x103 x104 x105 x106 x107 x108 x109 x110 x111 x112 x113 x114 x115 x116 x117 x118 x119 H) : CodeW Try.prog E w0 ve.R20_23 T H (retQ Try.prog E Try.f20 Q) := by
  obtain ⟨h1, h4, h7, h10⟩ := hT
  have hs := ve.P20_23_ok (hp (x0 := T.getD 0 undefA) (x1 := T.getD 1 undefA) (x2 := T.getD 2 undefA) (x3 := T.getD 3 undefA) (x5 := T.getD 5 undefA) (x6 := T.getD 6 undefA) (x8 := T.getD 8 undefA) (x9 := T.getD 9 undefA) (x11 := T.getD 11 undefA) (x12 := T.getD 12 undefA) (x13 := T.getD 13 undefA) (x14 := T.getD 14 undefA) (x15 := T.getD 15 undefA) (x16 := T.getD 16 undefA) (x17 := T.getD 17 undefA) (x18 := T.getD 18 undefA) (x19 := T.getD 19 undefA) (x20 := T.getD 20 undefA) (x21 := T.getD 21 undefA) (x22 := T.getD 22 undefA) (x23 := T.getD 23 undefA) (x24 := T.getD 24 undefA) (x25 := T.getD 25 undefA) (x26 := T.getD 26 undefA) (x27 := T.getD 27 undefA) (x28 := T.getD 28 undefA) (x29 := T.getD 29 undefA) (x30 := T.getD 30 undefA) (x31 := T.getD 31 undefA) (x32 := T.getD 32 undefA) (x33 := T.getD 33 undefA) (x34 := T.getD 34 undefA) (x35 := T.getD 35 undefA) (x36 := T.getD 36 undefA) (x37 := T.getD 37 undefA) (x38 := T.getD 38 undefA) (x39 := T.getD 39 undefA) (x40 := T.getD 40 undefA) (x41 := T.getD 41 undefA) (x42 := T.getD 42 undefA) (x43 := T.getD 43 undefA) (x44 := T.getD 44 undefA) (x45 := T.getD 45 undefA) (x46 := T.getD 46 undefA) (x47 := T.getD 47 undefA) (x48 := T.getD 48 undefA) (x49 := T.getD 49 undefA) (x50 := T.getD 50 undefA) (x51 := T.getD 51 undefA) (x52 := T.getD 52 undefA) (x53 := T.getD 53 undefA) (x54 := T.getD 54 undefA) (x55 := T.getD 55 undefA) (x56 := T.getD 56 undefA) (x57 := T.getD 57 undefA) (x58 := T.getD 58 undefA) (x59 := T.getD 59 undefA) (x60 := T.getD 60 undefA) (x61 := T.getD 61 undefA) (x62 := T.getD 62 undefA) (x63 := T.getD 63 undefA) (x64 := T.getD 64 undefA) (x65 := T.getD 65 undefA) (x66 := T.getD 66 undefA) (x67 := T.getD 67 undefA) (x68 := T.getD 68 undefA) (x69 := T.getD 69 undefA) (x70 := T.getD 70 undefA) (x71 := T.getD 71 undefA) (x72 := T.getD 72 undefA) (x73 := T.getD 73 undefA) (x74 := T.getD 74 undefA) (x75 := T.getD 75 undefA) (x76 := T.getD 76 undefA) (x77 := T.getD 77 undefA) (x78 := T.getD 78 undefA) (x79 := T.getD 79 undefA) (x80 := T.getD 80 undefA) (x81 := T.getD 81 undefA) (x82 := T.getD 82 undefA) (x83 := T.getD 83 undefA) (x84 := T.getD 84 undefA) (x85 := T.getD 85 undefA) (x86 := T.getD 86 undefA) (x87 := T.getD 87 undefA) (x88 := T.getD 88 undefA) (x89 := T.getD 89 undefA) (x90 := T.getD 90 undefA) (x91 := T.getD 91 undefA) (x92 := T.getD 92 undefA) (x93 := T.getD 93 undefA) (x94 := T.getD 94 undefA) (x95 := T.getD 95 undefA) (x96 := T.getD 96 undefA) (x97 := T.getD 97 undefA) (x98 := T.getD 98 undefA) (x99 := T.getD 99 undefA) (x100 := T.getD 100 undefA) (x101 := T.getD 101 undefA) (x102 := T.getD 102 undefA) (x103 := T.getD 103 undefA) (x104 := T.getD 104 undefA) (x105 := T.getD 105 undefA) (x106 := T.getD 106 undefA) (x107 := T.getD 107 undefA) (x108 := T.getD 108 undefA) (x109 := T.getD 109 undefA) (x110 := T.getD 110 undefA) (x111 := T.getD 111 undefA) (x112 := T.getD 112 undefA) (x113 := T.getD 113 undefA) (x114 := T.getD 114 undefA) (x115 := T.getD 115 undefA) (x116 := T.getD 116 undefA) (x117 := T.getD 117 undefA) (x118 := T.getD 118 undefA) (x119 := T.getD 119 undefA))
  rw [← h4, ← h7, ← h10] at hs
  rw [row_open h1]
  exact hs

theorem dec15_ok {xs4 : List AV} {pre4 prex : List Nat} (F0 : Fine H0) (F : Fine H) (hst : Stays H0 H) (h4 : H0.next ≤ k4) (g4 : H.get k4 = some (.cells xs4 true pre4)) (l4 : xs4.length = 4) (hx0 : H0.next ≤ kx) (gx : H.get kx = some (.cells [.int .u8 op, .int .i64 a, .int .i64 b, .nilSlc] true prex))
    (hr0 : H0.next ≤ kr) (hr : RdAt H kr cv s) (hxk : kx ≠ k4) (hrk : kr ≠ k4) (hxr : kx ≠ kr) (hs : s.1 ≤ bs.length) (hc : CodeAt E (fun j => j < H0.next) H cv bs) (hop : bs.getD p 0 = op) (hl : lay op ≠ none) (hf : rdFields bs ((lay op).getD []) (p + 1, 0) = (a, b, s)) {x0 x1 x2 x3 x5 x6 x8 x9 x11 x12 x13 x14 x15 x16 x17 x18 x19 x20 x21 x22 x23 x24 x25 x26 x27 x28 x29 x30 x31 x32 x33 x34 x35 x36 x37 x38 x39 x40 x41 x42 x43 x44 x45 x46 x47 x48 x49 x50 x51 x52 x53 x54 x55 x56 x57 x58 x59 x60 x61 x62 x63 x64 x65 x66 x67 x68 x69 x70 x71 x72 x73 x74 x75 x76 x77 x78 x79 x80 x81 x82 x83 x84 x85 x86 x87 x88 x89 x90 x91 x92 x93 x94 x95 x96 x97 x98 x99 x100 x101 x102 x103 x104 x105 x106 x107 x108 x109 x110 x111 x112 x113 x114 x115 x116 x117 x118 x119 : AV} :
    ve.P20_15 E w0 (DecQ E H0 (decS bs p)) x0 x1 x2 x3 (.ptr (.new k4) 0) x5 x6 (.ptr (.new kx) 0) x8 x9 (.ptr (.new kr) 0) x11 x12 x13 x14 x15 x16 x17 x18 x19 x20 x21 x22 x23 x24 x25 x26 x27 x28 x29 x30 x31 x32 x33 x34 x35 x36 x37 x38 x39 x40 x41 x42 x43 x44 x45 x46 x47 x48 x49 x50 x51 x52 x53 x54 x55 x56 x57 x58 x59 x60 x61 x62 x63 x64 x65 x66 x67 x68 x69 x70 x71 x72 x73 x74 x75 x76 x77 x78 x79 x80 x81 x82 x83 x84 x85 x86 x87 x88 x89 x90 x91 x92 x93 x94 x95 x96 x97 x98 x99 x100 x101 x102 x103 x104 x105 x106 x107 x108 x109 x110 x111 x112 x113 x114 x115 x116 x117 x118 x119 H := by
  unfold ve.P20_15
  have l0 : loadV Try.prog E H 5 (.ptr (.new kx) 0) = some (.int .u8 op) := by rw [ld_5, loadCell_new E gx]; rfl
  rw [fa_24_0, oS, Nat.zero_add, l0, oS, eqv_5, oS]
  have hk4 := F.lt g4
  have hkx := F.lt gx
  have hkr : kr < H.next := by obtain ⟨pre, hg⟩ := hr; exact F.lt hg
  rw [condW_bool]
  refine ⟨fun h49 => ?_, fun h49 => ?_⟩
  · have h49 : op = 49 := by simpa using h49
    subst h49
    refine r16_ok F gx ?_
    rintro _ _ u0 u1 u2 u3 u4 u5 u6 H1 ⟨f0, f5, k7, k8, rfl, rfl, S⟩
    have m0 := S.hm0 f0 rfl
    have m5 := S.hm5 f5 rfl
    obtain ⟨a7, _, p7, g7⟩ := S.h7 _ _ rfl
    obtain ⟨a8, _, p8, g8⟩ := S.h8 _ _ rfl
    have fx : ∀ j, j < H1.next → Free H (some (k7, [.int .i64 4, f0])) (some (k8, [.int .i64 8, f5])) j → Fix kx kr H1.next j := fun j hj h => ⟨by have := h.1; omega, by have := h.1; omega, hj⟩
    have hle := S.le
    have e7 := S.fine.lt g7
    have e8 := S.fine.lt g8
    have b7 : BoxAt (Fix kx kr H1.next) H1 k7 fLeap := ⟨f0, p7, g7, m0.less S.fine fx⟩
    have b8 : BoxAt (Fix kx kr H1.next) H1 k8 (vF (IntKind.u8.wrap a)) := ⟨f5, p8, g8, m5.less S.fine fx⟩
    have hc1 : CodeAt E (Fix kx kr H1.next) H1 cv bs := (hc.keep (Keeps.of S.stays)).less S.fine fun j hj h => ⟨by have h' : j < H0.next := h; omega, by have h' : j < H0.next := h; omega, hj⟩
    refine ve.P20_17_ok (p17_ok S.fine rfl hxr (by omega) (by omega) hc1 b7 b8 ⟨by omega, by omega, e7⟩ ⟨by omega, by omega, e8⟩ (S.stays _ _ _ gx) (hr.keep (X := All) (Keeps.of S.stays) trivial) hs ?_)
    intro T H' av arms b' s' hT F' K' N' gx' r' o' hsw
    show CodeW Try.prog E w0 ve.R20_23 T H' (retQ Try.prog E Try.f20 _)
    obtain ⟨pre', gx'⟩ := gx'
    have st' : Stays H0 H' := fun k al pr hk => by
      have := F0.lt hk
      exact K' _ _ _ ⟨by omega, by omega, by omega⟩ (S.stays _ _ _ (hst _ _ _ hk))
    have g4' := K' _ _ _ (show Fix kx kr H1.next k4 from ⟨Ne.symm hxk, Ne.symm hrk, by omega⟩) (S.stays _ _ _ g4)
    refine row23 hT ?_
    intros
    refine end_ok F0 F' st' h4 g4' l4 gx' r' hxk hrk (o'.toAt.less F' fun j _ h => ⟨by have h' : H1.next ≤ j := h; omega, by have h' : H1.next ≤ j := h; omega⟩) ⟨o'.cells, o'.scalar⟩ (by rw [hop]; exact hl) ?_
    unfold decX
    rw [hop, if_pos rfl, hf]
    exact hsw
  · have h49 : op ≠ 49 := by simpa using h49
    refine ve.P20_23_ok ?_
    refine end_ok F0 F hst h4 g4 l4 gx hr hxk hrk (.inl ⟨rfl, rfl⟩) ⟨rfl, rfl⟩ (by rw [hop]; exact hl) ?_
    unfold decX
    rw [hop, if_neg h49, hf]
end
end Go.Proofs.Ytcboaonbfgjmgaa.op

/-
  Decode.
-/
open Go.Proofs Go Go.Am
namespace Go.Proofs.Ytcboaonbfgjmgaa.op
open Go.Proofs.Ytcboaonbfgjmgaa.vb Go.Proofs.Ytcboaonbfgjmgaa.vr Go.Proofs.Ytcboaonbfgjmgaa.vw Go.Proofs.Ytcboaonbfgjmgaa.vd Go.Proofs.Ytcboaonbfgjmgaa.vs
set_option linter.unusedVariables false
set_option linter.unusedSimpArgs false
set_option maxRecDepth 100000

variable {E : Env} {w0 : World}

def foldF (bs : List Int) : Nat → Int → Int → Nat × Int → List Fd → Int × Int × (Nat × Int)
  | _, a, b, s, [] => (a, b, s)
  | i, a, b, s, f :: l => foldF bs (i + 1) (if i = 0 then (rdS bs f s).1 else a) (if i = 0 then b else (rdS bs f s).1) (rdS bs f s).2 l
theorem foldF_is {bs : List Int} {s : Nat × Int} : ∀ {l : List Fd}, l.length ≤ 2 → foldF bs 0 0 0 s l = rdFields bs l s
  | [], _ => rfl
  | [f], _ => rfl
  | [f, g], _ => rfl
  | _ :: _ :: _ :: _, h => by simp at h

section
variable {H0 H1 H H' : AHeap} {N k4 kx kr : Nat} {cv av lv : AV} {bs : List Int} {p : Nat} {op a b : Int} {s : Nat × Int}

theorem fields_rd {xs4 : List AV} {pre4 prex : List Nat} (F0 : Fine H0) (F : Fine H) (hst : Stays H0 H) (h4 : H0.next ≤ k4) (g4 : H.get k4 = some (.cells xs4 true pre4)) (l4 : xs4.length = 4) (hx0 : H0.next ≤ kx) (gx : H.get kx = some (.cells [.int .u8 op, .int .i64 0, .int .i64 0, .nilSlc] true prex))
    (hr0 : H0.next ≤ kr) (hr : RdAt H kr cv (p + 1, 0)) (hxk : kx ≠ k4) (hrk : kr ≠ k4) (hxr : kx ≠ kr) (hs : p + 1 ≤ bs.length) (hc : CodeAt E (fun j => j < H0.next) H cv bs) (hop : bs.getD p 0 = op) (hl : lay op ≠ none) (hf : FieldsAt (Fix kx kr H.next) H lv ((lay op).getD [])) {x0 x1 x2 x3 x5 x6 x8 x9 x11 x12 x13 x14 x15 x16 x17 x18 x19 x20 x21 x22 x23 x24 x25 x26 x27 x28 x29 x30 x31 x32 x33 x34 x35 x36 x37 x38 x39 x40 x41 x42 x43 x44 x48 x49 x50 x51 x52 x53 x54 x55 x56 x57 x58 x59 x60 x61 x62 x63 x64 x65 x66 x67 x68 x69 x70 x71 x72 x73 x74 x75 x76 x77 x78 x79 x80 x81 x82 x83 x84 x85 x86 x87 x88 x89 x90 x91 x92 x93 x94 x95 x96 x97 x98 x99 x100 x101 x102 x103 x104 x105 x106 x107 x108 x109 x110 x111 x112 x113 x114 x115 x116 x117 x118 x119 : AV} :
    CodeW Try.prog E w0 (.loop ve.L20_1) [x0, x1, x2, x3, (.ptr (.new k4) 0), x5, x6, (.ptr (.new kx) 0), x8, x9, (.ptr (.new kr) 0), x11, x12, x13, x14, x15, x16, x17, x18, x19, x20, x21, x22, x23, x24, x25, x26, x27, x28, x29, x30, x31, x32, x33, x34, x35, x36, x37, x38, x39, x40, x41, x42, x43, x44, lv, (.int .i64 (((lay op).getD []).length : Int)), (.int .i64 0), x48, x49, x50, x51, x52, x53, x54, x55, x56, x57, x58, x59, x60, x61, x62, x63, x64, x65, x66, x67, x68, x69, x70, x71, x72, x73, x74, x75, x76, x77, x78, x79, x80, x81, x82, x83, x84, x85, x86, x87, x88, x89, x90, x91, x92, x93, x94, x95, x96, x97, x98, x99, x100, x101, x102, x103, x104, x105, x106, x107, x108, x109, x110, x111, x112, x113, x114, x115, x116, x117, x118, x119] H (ve.K20_1 E w0 (DecQ E H0 (decS bs p))) := by
  have hk4 := F.lt g4
  have hkx := F.lt gx
  have hkr : kr < H.next := by obtain ⟨pre, hg⟩ := hr; exact F.lt hg
  have hn : ∀ j, Fix kx kr H.next j → j ≠ kr := fun j h => h.2.1
  obtain ⟨l, hll⟩ : ∃ l, l = (lay op).getD [] := ⟨_, rfl⟩
  have hlen : l.length ≤ 2 := by rw [hll]; exact lay_length
  have hsz : ∀ f ∈ l, 1 ≤ f.size ∧ f.size ≤ 8 := by rw [hll]; exact lay_size
  rw [← hll] at hf ⊢
  have hcX : CodeAt E (Fix kx kr H.next) H cv bs := hc.less F fun j hj h => ⟨by have h' : j < H0.next := h; omega, by have h' : j < H0.next := h; omega, hj⟩
  refine ve.loop20_1 (I := fun n t4 t7 t10 t45 t46 t47 H' => t4 = .ptr (.new k4) 0 ∧ t7 = .ptr (.new kx) 0 ∧ t10 = .ptr (.new kr) 0 ∧ lv = t45 ∧ t46 = .int .i64 (l.length : Int) ∧ ∃ (i : Nat) (a b : Int) (s : Nat × Int) (pre : List Nat), t47 = .int .i64 (i : Int) ∧ i + n = l.length ∧
      Fine H' ∧ H.next ≤ H'.next ∧ Keeps (Fix kx kr H.next) H H' ∧ H'.get kx = some (.cells [.int .u8 op, .int .i64 a, .int .i64 b, .nilSlc] true pre) ∧ RdAt H' kr cv s ∧ s.1 ≤ bs.length ∧ foldF bs i a b s (l.drop i) = foldF bs 0 0 0 (p + 1, 0) l) ?_ (n := l.length)
    ⟨rfl, rfl, rfl, rfl, rfl, 0, 0, 0, (p + 1, 0), prex, rfl, by omega, F, Nat.le_refl _, Keeps.refl, gx, hr, hs, rfl⟩
  rintro n _ _ _ _ _ _ H2 ⟨rfl, rfl, rfl, rfl, rfl, i, a, b, s, pre, rfl, hi, F2, n2, k2, g2, r2, hs2, hfold⟩
  intros
  unfold ve.B20_1
  rw [bin_lss, oS, condW_bool]
  refine ⟨fun hlt => ?_, fun hge => ?_⟩
  · have hlt : i < l.length := by have := of_decide_eq_true hlt; omega
    obtain ⟨f, hfe⟩ : ∃ f, f = l[i] := ⟨_, rfl⟩
    have hj : l[i]? = some f := by rw [List.getElem?_eq_getElem hlt, hfe]
    obtain ⟨z1, z8⟩ := hsz f (by rw [hfe]; exact List.getElem_mem _)
    obtain ⟨q, fv, e1, e2, e3⟩ := (hf.keep k2).at (E := E) hj
    rw [e1, oS, e2, oS]
    have hdrop : l.drop i = f :: l.drop (i + 1) := by rw [List.drop_eq_getElem_cons hlt, hfe]
    rw [hdrop, foldF] at hfold
    refine box_new F2 (s := f.size) e3 fun H3 F3 s3 n3 b3 => ?_
    have k3 : Keeps (Fix kx kr H.next) H H3 := Keeps.trans k2 (Keeps.of s3 : Keeps (Fix kx kr H.next) H2 H3) F fun _ _ h => h
    obtain ⟨fv', m1, m2⟩ := b3.load (E := E)
    have g3 := s3 _ _ _ g2
    have r3 : RdAt H3 kr cv s := r2.keep (X := All) (Keeps.of s3) trivial
    rw [eqv_3, oS]
    -- what is read
    have rd : ∀ {K : AV → AHeap → Prop}, (∀ H4, Fine H4 → H3.next ≤ H4.next → Keeps (fun j => j ≠ kr) H3 H4 → RdAt H4 kr cv (rdS bs f s).2 → K (.int .i64 (rdS bs f s).1) H4) → FnW Try.prog E w0 44 [.ptr (.new kr) 0, .agg [.int .i64 (f.size : Int), fv']] H3 K := by
      intro K hK
      refine (read_ok F3 ((hcX.keep k3).less F3 fun j _ h => hn j h) r3 hs2 z1 z8 (fix_may hn m2 F3)).toW.use ?_
      rintro v H4 ⟨rfl, r4, k4'⟩ F4 n4
      exact hK H4 F4 n4 k4' r4
    rw [condW_bool]
    refine ⟨fun h0 => ?_, fun h0 => ?_⟩
    · have h0 : i = 0 := by have : (i : Int) = 0 := by simpa using h0
                            omega
      rw [if_pos h0, if_pos h0] at hfold
      rw [m1, oS]
      refine rd fun H4 F4 n4 k4' r4 => ?_
      have g4' := k4' _ _ _ (show kx ≠ kr from hxr) g3
      rw [fa_24_1, oS, Nat.zero_add]
      obtain ⟨H5, p1, p2, p3, p4, F5⟩ := F4.store g4' (n := 1) (x := .int .i64 (rdS bs f s).1) (by simp) rfl
      refine storesW sz_2 p1 ?_
      have k5 : Keeps (fun j => j ≠ kx) H4 H5 := Keeps.but p3 fun _ h => h
      rw [bin_add, oS, wrap_i64 (by omega) (by omega)]
      exact ⟨n - 1, by omega, rfl, rfl, rfl, rfl, rfl, rfl, i + 1, _, _, _, _, by simp, by omega, F5, by omega, Keeps.trans k3 (Keeps.trans (k4'.less hn) k5 F3 fun j _ h => h.1) F fun _ _ h => h, p2, r4.keep k5 (Ne.symm hxr), rdS_le hs2, hfold⟩
    · have h0 : ¬ i = 0 := fun e => by rw [e] at h0; simp at h0
      rw [if_neg h0, if_neg h0] at hfold
      rw [m1, oS]
      refine rd fun H4 F4 n4 k4' r4 => ?_
      have g4' := k4' _ _ _ (show kx ≠ kr from hxr) g3
      rw [fa_24_2, oS, Nat.zero_add]
      obtain ⟨H5, p1, p2, p3, p4, F5⟩ := F4.store g4' (n := 2) (x := .int .i64 (rdS bs f s).1) (by simp) rfl
      refine storesW sz_2 p1 ?_
      have k5 : Keeps (fun j => j ≠ kx) H4 H5 := Keeps.but p3 fun _ h => h
      rw [bin_add, oS, wrap_i64 (by omega) (by omega)]
      exact ⟨n - 1, by omega, rfl, rfl, rfl, rfl, rfl, rfl, i + 1, _, _, _, _, by simp, by omega, F5, by omega, Keeps.trans k3 (Keeps.trans (k4'.less hn) k5 F3 fun j _ h => h.1) F fun _ _ h => h, p2, r4.keep k5 (Ne.symm hxr), rdS_le hs2, hfold⟩
  · have hge : ¬ (i : Int) < l.length := of_decide_eq_false hge
    have hnil : l.drop i = [] := List.drop_eq_nil_of_le (by omega)
    rw [hnil, foldF, foldF_is hlen] at hfold
    refine ve.P20_15_ok ?_
    refine dec15_ok F0 F2 (fun k al pr hk => ?_) h4 (k2 _ _ _ ⟨Ne.symm hxk, Ne.symm hrk, hk4⟩ g4) l4 hx0 g2 hr0 r2 hxk hrk hxr hs2 (hc.keep (k2.less fun j h => ⟨by have h' : j < H0.next := h; omega, by have h' : j < H0.next := h; omega, by have h' : j < H0.next := h; omega⟩)) hop hl (by rw [← hll]; exact hfold.symm)
    have := F0.lt hk
    exact k2 _ _ _ ⟨by omega, by omega, by omega⟩ (hst _ _ _ hk)
end

/-- Decode at any place. -/
def decT (bs : List Int) (n : Int) : Dat × (Nat × Int) := if n < 0 ∨ n ≥ bs.length then (zDat, (0, 2)) else decS bs n.toNat

theorem decode_ok {H : AHeap} (F : Fine H) {cv : AV} {bs : List Int} (hc : CodeAt E All H cv bs) {n : Int} : FnW Try.prog E w0 20 [cv, .int .i64 n] H (DecQ E H (decT bs n)) := by
  refine ve.V20_ok ?_
  unfold ve.V20
  have hz : AV.cells (.agg [(.int .u8 0), (.int .i64 0), (.int .i64 0), .nilSlc]) = [(.int .u8 0), (.int .i64 0), (.int .i64 0), .nilSlc] := rfl
  have hl := hc.1
  obtain ⟨a1, a2, a3, F1⟩ := F.newCells [AV.int .u8 0, .int .i64 0, .int .i64 0, .nilSlc]
  rw [zero_24, oS, wW, hz]
  generalize hH1 : newCells H [AV.int .u8 0, .int .i64 0, .int .i64 0, .nilSlc] = H1 at *
  -- an error
  have err : ∀ {H2 : AHeap} {pre : List Nat} (c : Int), Fine H2 → Stays H H2 → H2.get H.next = some (.cells [AV.int .u8 0, .int .i64 0, .int .i64 0, .nilSlc] true pre) →
      (optW (buildA Try.prog 24 []) fun v9 => storeW Try.prog H2 24 (.ptr (.new H.next) 0) v9 fun v10 H11 => cellW Try.prog E H11 24 (.ptr (.new H.next) 0) fun v12 => DecQ E H (zDat, (0, c)) (.tup [v12, (.int .i64 0), (.int .i64 c)]) H11) := by
    intro H2 pre c F2 s2 g2
    rw [bld0_24, oS]
    obtain ⟨H3, c1, c2, c3, c4, F3⟩ := F2.stores g2 (n := 0) (vs := [.int .u8 0, .int .i64 0, .int .i64 0, .nilSlc]) (by simp) (by simp) (by rfl)
    rw [setMany_all (by rfl)] at c2
    refine storesW sz_24 c1 ?_
    show optW (loadVarA Try.prog E H3 24 (.new H.next) 0) _
    rw [lv_24, loadRange_new E c2, if_pos (by simp), Option.bind_some, oS]
    exact ⟨fun k al pr hk => c3 _ _ _ (fun e => by have := F.lt hk; omega) (s2 _ _ _ hk), .nilSlc, rfl, .inl ⟨rfl, rfl⟩⟩
  rw [bin_lss, oS]
  by_cases hneg : n < 0
  · have hd : decT bs n = (zDat, (0, 2)) := by unfold decT; rw [if_pos (.inl hneg)]
    rw [dT hneg, hd]
    simp only [wB, btf, vF, oS, pB, if_true, cT]
    exact err 2 F1 a2 a1
  rw [dF hneg]
  simp only [wB, bff, vT, oS, pB, Bool.false_eq_true, if_false, hc.len, bin_geq]
  by_cases hge : n ≥ bs.length
  · have hd : decT bs n = (zDat, (0, 2)) := by unfold decT; rw [if_pos (.inr hge)]
    rw [dT hge, cT, hd]
    exact err 2 F1 a2 a1
  rw [dF hge, cF]
  obtain ⟨p, rfl⟩ : ∃ p : Nat, n = (p : Int) := ⟨n.toNat, by omega⟩
  have hp : p < bs.length := by omega
  have hd : decT bs p = decS bs p := by unfold decT; rw [if_neg (by omega), Int.toNat_natCast]
  rw [hd]
  obtain ⟨op, hope⟩ : ∃ op, op = bs[p] := ⟨_, rfl⟩
  have hj : bs[p]? = some op := by rw [List.getElem?_eq_getElem hp, hope]
  have hop : bs.getD p 0 = op := by rw [List.getD_eq_getElem?_getD, hj]; rfl
  have hc1 := hc.keep (Keeps.of a2)
  obtain ⟨o, q, e1, e2⟩ := hc1.at hj
  rw [e1, oS, ld_5, e2, oS, bld1_24, oS, wW, hz]
  obtain ⟨b1, b2, b3, F2⟩ := F1.newCells [AV.int .u8 0, .int .i64 0, .int .i64 0, .nilSlc]
  generalize hH2 : newCells H1 [AV.int .u8 0, .int .i64 0, .int .i64 0, .nilSlc] = H2 at *
  obtain ⟨H3, c1, c2, c3, c4, F3⟩ := F2.stores b1 (n := 0) (vs := [.int .u8 op, .int .i64 0, .int .i64 0, .nilSlc]) (by simp) (by simp) (by rfl)
  rw [setMany_all (by rfl)] at c2
  refine storesW sz_24 c1 ?_
  have s3 : Stays H1 H3 := fun k al pr hk => c3 _ _ _ (fun e => by have := F1.lt hk; omega) (b2 _ _ _ hk)
  have l0 : loadV Try.prog E H3 5 (.ptr (.new H1.next) 0) = some (.int .u8 op) := by rw [ld_5, loadCell_new E c2]; rfl
  rw [fa_24_0, oS, Nat.zero_add, l0, oS]
  refine (layout_ok F3 (op := op)).toW.use ?_
  rintro v H4 ⟨lv, rfl, hf, s4⟩ F4 n4
  simp only [ex0, ex1, oS, un_not]
  have g4 := s4 _ _ _ (s3 _ _ _ a1)
  have gx := s4 _ _ _ c2
  have st4 : Stays H H4 := stays_trans a2 (stays_trans s3 s4)
  cases hlay : lay op with
  | none =>
    have hdd : decS bs p = (zDat, (0, 120)) := by unfold decS; rw [hop, if_pos hlay]
    rw [hdd]
    simp only [Option.isSome_none, Bool.not_false, cT]
    exact err 120 F4 st4 g4
  | some l =>
    simp only [Option.isSome_some, Bool.not_true, cF]
    rw [bin_add, oS, wrap_i64 (by omega) (by omega), hc.build, oS, wW]
    have hcl : AV.cells (.agg [cv, .int .i64 ((p : Int) + 1), .int .i64 0]) = [cv, .int .i64 ((p : Int) + 1), .int .i64 0] := rfl
    rw [hcl]
    obtain ⟨d1, d2, d3, F5⟩ := F4.newCells [cv, .int .i64 ((p : Int) + 1), .int .i64 0]
    generalize hH5 : newCells H4 [cv, .int .i64 ((p : Int) + 1), .int .i64 0] = H5 at *
    rw [hlay] at hf
    rw [hf.len, oS]
    have hlgd : l = (lay op).getD [] := by rw [hlay]; rfl
    rw [Option.getD_some, hlgd]
    rw [Option.getD_some, hlgd] at hf
    exact fields_rd F F5 (stays_trans st4 d2) (Nat.le_refl _) (d2 _ _ _ g4) rfl (by omega) (d2 _ _ _ gx) (by omega) ⟨_, d1⟩ (by omega) (by omega) (by omega) (by omega) ((hc.less F fun j hj _ => hj).keep (Keeps.of (stays_trans st4 d2))) hop (by rw [hlay]; simp) ((hf.less F4 fun j hj h => ⟨by omega, by omega, by omega⟩).keep (Keeps.of d2))
end Go.Proofs.Ytcboaonbfgjmgaa.op

/-
  Reading an instruction: a beginning of one is too short.
-/
open Go.Proofs Go Go.Am
namespace Go.Proofs.Ytcboaonbfgjmgaa.op
set_option linter.unusedVariables false
set_option linter.unusedSimpArgs false
set_option maxRecDepth 100000

section
variable {bs es : List Int} {i : Nat} {f : Fd} {s sb sE : Nat × Int}

theorem rdS_stick (h : (rdS bs f s).2.2 = 0) : s.2 = 0 := by
  by_cases hs : s.2 = 0
  · exact hs
  · rw [rdS_err hs] at h; exact h
theorem rdArms_err {w : Int} {n : Nat} {acc : List (Int × Int)} (h : s.2 ≠ 0) : rdArms bs w n s acc = (acc, s) := by
  cases n with
  | zero => rfl
  | succ n => rw [rdArms, if_pos h]
theorem rdArms_stick {w : Int} {n : Nat} {acc : List (Int × Int)} (h : (rdArms bs w n s acc).2.2 = 0) : s.2 = 0 := by
  by_cases hs : s.2 = 0
  · exact hs
  · rw [rdArms_err hs] at h; exact h

/-- What is read is the same, or it is too short. -/
def Rel (i : Nat) (sb sE : Nat × Int) : Prop := (sb = sE ∧ sE.1 ≤ i) ∨ sb.2 = 10

theorem rdS_next {p : Nat} (h : (rdS es f (p, 0)).2.2 = 0) : (rdS es f (p, 0)).2.1 = p + f.size ∧ p + f.size ≤ es.length := by
  unfold rdS at h ⊢
  rw [if_neg (by simp)] at h ⊢
  by_cases hl : es.length < (p, (0 : Int)).1 + f.size
  · rw [if_pos hl] at h; simp at h
  · rw [if_neg hl] at h ⊢
    simp only at hl h ⊢
    cases hr : rdN f (leN ((es.drop p).take f.size)) with
    | none => rw [hr] at h; simp at h
    | some n => exact ⟨rfl, by omega⟩

theorem rel_step (hE : (rdS es f sE).2.2 = 0) (h : Rel i sb sE) (hi : i ≤ es.length) : (rdS (es.take i) f sb = rdS es f sE ∧ (rdS es f sE).2.1 ≤ i) ∨ (rdS (es.take i) f sb).2.2 = 10 := by
  rcases h with ⟨rfl, hle⟩ | h
  · have h0 := rdS_stick hE
    obtain ⟨p, e⟩ := sb
    simp only at h0 hle
    subst h0
    obtain ⟨h1, h2⟩ := rdS_next hE
    by_cases hs : i < p + f.size
    · right
      rw [rdS_short (by rw [List.length_take]; omega)]
    · left
      refine ⟨?_, by omega⟩
      unfold rdS
      rw [if_neg (by simp), if_neg (by simp only [List.length_take]; omega), if_neg (by simp only; omega)]
      have : ((es.take i).drop p).take f.size = (es.drop p).take f.size := by
        rw [List.drop_take, List.take_take, Nat.min_eq_left (by omega)]
      simp only [this]
      rw [if_neg (by omega)]
  · right
    rw [rdS_err (by rw [h]; decide)]; exact h
theorem rel_next (hE : (rdS es f sE).2.2 = 0) (h : Rel i sb sE) (hi : i ≤ es.length) : Rel i (rdS (es.take i) f sb).2 (rdS es f sE).2 := by
  rcases rel_step hE h hi with ⟨e, h⟩ | h
  · exact .inl ⟨by rw [e], h⟩
  · exact .inr h

theorem rel_arms {w : Int} (hi : i ≤ es.length) : ∀ (n : Nat) (sb sE : Nat × Int) (ab aE : List (Int × Int)), Rel i sb sE → (rdArms es w n sE aE).2.2 = 0 → Rel i (rdArms (es.take i) w n sb ab).2 (rdArms es w n sE aE).2
  | 0, sb, sE, ab, aE, h, _ => h
  | n + 1, sb, sE, ab, aE, h, hE => by
    have h0 := rdArms_stick hE
    have eE : rdArms es w (n + 1) sE aE = rdArms es w n (rdS es fLeap (rdS es (vF w) sE).2).2 (aE ++ [((rdS es (vF w) sE).1, (rdS es fLeap (rdS es (vF w) sE).2).1)]) := by rw [rdArms, if_neg (by simp [h0])]
    rw [eE] at hE ⊢
    have h2 := rdArms_stick hE
    have h1 := rdS_stick h2
    by_cases hb : sb.2 = 0
    · rw [rdArms, if_neg (by simp [hb])]
      exact rel_arms hi n _ _ _ _ (rel_next h2 (rel_next h1 h hi) hi) hE
    · rw [rdArms, if_pos hb]
      rcases h with ⟨rfl, _⟩ | h
      · exact (hb h0).elim
      · exact .inr h

theorem rel_fields : ∀ {l : List Fd}, (rdFields es l sE).2.2.2 = 0 → Rel i sb sE → i ≤ es.length → (rdFields (es.take i) l sb = rdFields es l sE ∧ (rdFields es l sE).2.2.1 ≤ i) ∨ (rdFields (es.take i) l sb).2.2.2 = 10
  | [], hE, h, hi => by
    rcases h with ⟨rfl, h⟩ | h
    · exact .inl ⟨rfl, h⟩
    · exact .inr h
  | [f], hE, h, hi => by
    rw [rdFields] at hE
    rcases rel_step hE h hi with ⟨e, h⟩ | h
    · exact .inl ⟨by rw [rdFields, rdFields, e], h⟩
    · exact .inr h
  | f :: g :: l, hE, h, hi => by
    rw [rdFields] at hE
    have h1 := rdS_stick hE
    rcases rel_step h1 h hi with ⟨e, h'⟩ | h'
    · rcases rel_step hE (.inl ⟨rfl, h'⟩) hi with ⟨e2, h2⟩ | h2
      · exact .inl ⟨by rw [rdFields, rdFields, e, e2], h2⟩
      · right; rw [rdFields, e]; exact h2
    · right
      rw [rdFields, rdS_err (f := g) (s := (rdS (es.take i) f sb).2) (by rw [h']; decide)]
      exact h'

theorem decSw_err {op a : Int} (h : s.2 ≠ 0) : (decSw bs op a s).2 = s := by
  unfold decSw
  have h1 : rdS bs fIx s = (0, s) := rdS_err h
  rw [h1]
  simp only
  rw [rdArms_err h]
  simp only
  rw [rdS_err h]
theorem rel_sw {op a : Int} (hE : (decSw es op a s).2.2 = 0) (hs : s.1 ≤ i) (hi : i ≤ es.length) : Rel i (decSw (es.take i) op a s).2 (decSw es op a s).2 := by
  unfold decSw at hE ⊢
  simp only at hE ⊢
  have h2 := rdS_stick hE
  have h1 := rdArms_stick h2
  refine rel_next hE ?_ hi
  rcases rel_step h1 (.inl ⟨rfl, hs⟩) hi with ⟨e, h⟩ | h
  · rw [e]
    exact rel_arms hi _ _ _ _ _ (.inl ⟨rfl, h⟩) h2
  · rw [rdArms_err (by rw [h]; decide)]
    exact .inr h

theorem decX_take {p : Nat} (hE : (decX es p).2.2 = 0) (hp : p < i) (hi : i ≤ es.length) : Rel i (decX (es.take i) p).2 (decX es p).2 := by
  have hop : (es.take i).getD p 0 = es.getD p 0 := by
    rw [List.getD_eq_getElem?_getD, List.getD_eq_getElem?_getD, List.getElem?_take, if_pos hp]
  unfold decX at hE ⊢
  rw [hop]
  by_cases h49 : es.getD p 0 = 49
  · rw [if_pos h49] at hE
    rw [if_pos h49, if_pos h49]
    have h0 : (rdFields es ((lay (es.getD p 0)).getD []) (p + 1, 0)).2.2.2 = 0 := by
      by_cases h : (rdFields es ((lay (es.getD p 0)).getD []) (p + 1, 0)).2.2.2 = 0
      · exact h
      · rw [decSw_err h] at hE; exact hE
    rcases rel_fields (i := i) h0 (.inl ⟨rfl, hp⟩) hi with ⟨e, h⟩ | h
    · rw [e]
      exact rel_sw hE h hi
    · rw [decSw_err (s := (rdFields (es.take i) _ _).2.2) (by rw [h]; decide)]
      exact .inr h
  · rw [if_neg h49] at hE
    rw [if_neg h49, if_neg h49]
    simp only at hE ⊢
    rcases rel_fields (i := i) hE (.inl ⟨rfl, hp⟩) hi with ⟨e, h⟩ | h
    · rw [e]; exact .inl ⟨rfl, h⟩
    · exact .inr h

/-- A proper beginning is too short. -/
theorem dec_short {x : In} (h : isS x = true) (h1 : 1 ≤ i) (hi : i < (encB x).length) : decS ((encB x).take i) 0 = (zDat, (0, 10)) := by
  have hd := dec_enc h [] []
  rw [List.append_nil, List.nil_append, List.length_nil, Nat.zero_add] at hd
  have hlay : lay ((encB x).getD 0 0) ≠ none := by
    intro e
    unfold decS at hd
    rw [if_pos e] at hd
    have := congrArg (fun d => d.2.2) hd
    simp at this
  have h0 : (decX (encB x) 0).2.2 = 0 := by
    by_cases h : (decX (encB x) 0).2.2 = 0
    · exact h
    · unfold decS at hd
      rw [if_neg hlay, if_pos h] at hd
      have := congrArg (fun d => d.2.2) hd
      simp only at this
      exact (h this).elim
  have hX : decX (encB x) 0 = (x.dat, ((encB x).length, 0)) := by
    unfold decS at hd
    rw [if_neg hlay, if_neg (by simp [h0])] at hd
    exact hd
  have hop : ((encB x).take i).getD 0 0 = (encB x).getD 0 0 := by
    rw [List.getD_eq_getElem?_getD, List.getD_eq_getElem?_getD, List.getElem?_take, if_pos (by omega)]
  have hr := decX_take (i := i) h0 (by omega) (by omega)
  have he : (decX ((encB x).take i) 0).2.2 = 10 := by
    rcases hr with ⟨_, h⟩ | h
    · rw [hX] at h; simp only at h; omega
    · exact h
  unfold decS
  rw [hop, if_neg hlay, he, if_pos (by decide)]
end
end Go.Proofs.Ytcboaonbfgjmgaa.op

/-
  OpsShort: its law.
-/
open Go.Proofs Go Go.Am
namespace Go.Proofs.Ytcboaonbfgjmgaa.op
open Go.Proofs.Ytcboaonbfgjmgaa.vb Go.Proofs.Ytcboaonbfgjmgaa.vr Go.Proofs.Ytcboaonbfgjmgaa.vw Go.Proofs.Ytcboaonbfgjmgaa.vd Go.Proofs.Ytcboaonbfgjmgaa.vs
set_option linter.unusedVariables false
set_option linter.unusedSimpArgs false
set_option maxRecDepth 100000

variable {E : Env} {w0 : World}

theorem byte_fld (x : In) : ∀ (l : List Fd) (i : Nat), ∀ b ∈ fldB x i l, Byte b
  | [], i, b, h => by simp [fldB] at h
  | f :: l, i, b, h => by
    rw [fldB, List.mem_append] at h
    rcases h with h | h
    · exact byte_fix _ _ b h
    · exact byte_fld x l _ b h
theorem byte_arms (l : List (Int × Int)) : ∀ b ∈ armsB l, Byte b := by
  intro b h
  obtain ⟨y, _, h⟩ := List.mem_flatMap.1 h
  rw [armB, List.mem_append] at h
  rcases h with h | h
  · exact byte_fix _ _ b h
  · exact byte_fix _ _ b h
theorem byte_enc {x : In} (ho : x.Ok) : ∀ b ∈ encB x, Byte b := by
  intro b h
  unfold encB at h
  rw [List.mem_append, List.mem_cons] at h
  rcases h with (rfl | h) | h
  · exact ho.op
  · exact byte_fld x _ _ b h
  · split at h
    · rw [List.mem_append, List.mem_append] at h
      rcases h with (h | h) | h
      · exact byte_fix _ _ b h
      · exact byte_arms _ b h
      · exact byte_fix _ _ b h
    · cases h
theorem sl_27 (H : AHeap) (k : Nat) (i len cap : Nat) (ex : Bool) (lo hi : Option AV) : sliceA Try.prog H 27 (.slc (.new k) i len cap ex 1) lo hi none = (boundsA len cap lo hi none).bind fun r => some (.slc (.new k) (i + r.1 * 1) (r.2.1 - r.1) (r.2.2 - r.1) (ex || false) 1) := by kernel_rfl
theorem sl_27o (H : AHeap) (k : Nat) (i len cap : Nat) (ex : Bool) (sz : Nat) (lo hi : Option AV) : sliceA Try.prog H 27 (.slc (.old k) i len cap ex sz) lo hi none = (boundsA len cap lo hi none).bind fun r => some (.slc (.old k) (i + r.1 * 1) (r.2.1 - r.1) (r.2.2 - r.1) (ex || false) sz) := by kernel_rfl
theorem cut_27 (H : AHeap) (k : Nat) (len cap : Nat) (ex : Bool) (n : Nat) (h : n ≤ cap) : sliceA Try.prog H 27 (.slc (.new k) 0 len cap ex 1) none (some (.int .i64 (n : Int))) none = some (.slc (.new k) 0 n cap ex 1) := by
  rw [sl_27]
  simp only [boundsA, topA, highA, lowA, boundA, Option.bind_some]
  rw [if_pos ⟨by omega, by omega⟩]
  simp
theorem enc_pos (x : In) : 1 ≤ (encB x).length := by unfold encB; simp
theorem Bs.cut {H : AHeap} {v : AV} {bs : List Int} {k i : Nat} (h : Bs H v bs k) (h0 : bs ≠ []) (hi : i ≤ bs.length) : ∃ v', sliceA Try.prog H 27 v none (some (.int .i64 (i : Int))) none = some v' ∧ Bs H v' (bs.take i) k := by
  rcases h with ⟨_, h⟩ | ⟨cap, ex, all, pre, rfl, g, ht, hc⟩
  · exact (h0 h).elim
  · refine ⟨_, cut_27 _ _ _ _ _ _ (by omega), .inr ⟨cap, ex, all, pre, by rw [List.length_take, Nat.min_eq_left hi], g, ?_, by rw [List.length_take]; omega⟩⟩
    rw [List.length_take, Nat.min_eq_left hi]
    have := congrArg (List.take i) ht
    rw [List.take_take, Nat.min_eq_left hi] at this
    rw [this, bys, bys, List.map_take]

theorem short_law {H : AHeap} {x : In} {c : Int} (hb : Byte c) (ho : x.Ok) (ha : ∀ H', ArmsAt E All H' x.av x.arms) (hsc : Am.scalar x.av = true) : FnW Try.prog E w0 4 [.agg x.cells, .int .u8 c] H fun v _ => v = .bool true := by
  refine fnW_fine fun F => ?_
  refine vg.V4_ok ?_
  unfold vg.V4
  have hcl : AV.cells (.agg x.cells) = x.cells := rfl
  obtain ⟨a1, a2, a3, F1⟩ := F.newCells x.cells
  rw [wW, hcl]
  generalize hH1 : newCells H x.cells = H1 at *
  obtain ⟨l0, l1, l2, l3, l4⟩ := In.loads (E := E) a1
  have hsh := ho.short
  simp only [fa_24_3, Nat.zero_add, oS, l3, (ha H1).len, bin_gtr]
  rw [condW_bool]
  refine ⟨fun _ => works_ok.toW, fun hsz => ?_⟩
  rw [l4, oS]
  refine (encode_ok F1 ho (ha H1)).toW.use ?_
  rintro v2 H2 ⟨s2, r, k, rfl, B2, hk, hne⟩ F2 n2
  simp only [ex0, ex1, oS, nev_28]
  cases hS : isS x with
  | false =>
    rw [hS] at B2
    simp only [Bool.false_eq_true, if_false] at B2 ⊢
    rw [show ((120 : Int) != 0) = true from rfl, cT, B2.len, oS, eqv_3, oS]
    simp only [List.length_nil, Int.natCast_zero, BEq.rfl, wB, btt, gT]
    refine works_ok.toW.use ?_
    rintro v H3 rfl _ _
    rw [pB, oS]
    rfl
  | true =>
    rw [hS] at B2 hne
    have hne := hne rfl
    simp only [if_true] at B2 ⊢
    rw [show ((0 : Int) != 0) = false from rfl, cF, B2.len, oS]
    have hlen := encB_short hS
    have hpos := enc_pos x
    have hby := byte_enc ho
    have h0 : encB x ≠ [] := fun e => by rw [e] at hpos; simp at hpos
    have g2 := s2 _ _ _ a1
    refine vg.loop4_0 (I := fun n t1 t2 t5 t7 t8 H' => t1 = .int .u8 c ∧ t2 = .ptr (.new H.next) 0 ∧ r = t5 ∧ t7 = .int .i64 ((encB x).length : Int) ∧ ∃ i : Nat, t8 = .int .i64 (i : Int) ∧ 1 ≤ i ∧ i + n = (encB x).length ∧ Fine H' ∧ Stays H2 H') ?_ (n := (encB x).length - 1)
      ⟨rfl, rfl, rfl, rfl, 1, rfl, Nat.le_refl _, by omega, F2, fun _ _ _ h => h⟩
    rintro n _ _ _ _ _ H3 ⟨rfl, rfl, rfl, rfl, i, rfl, hi1, hi, F3, s3⟩
    intros
    unfold vg.B4_0
    have B3 := B2.keep fun all pre hg => s3 _ _ _ hg
    have g3 := s3 _ _ _ g2
    -- behind the loop
    have out : opt2W (buildSliceA Try.prog H3 27 1 [(0, .int .u8 c)]) fun v40 H41 => opt2W (appendA Try.prog E H41 27 r 27 v40) fun v42 H43 =>
        FnW Try.prog E w0 20 [v42, (.int .i64 0)] H43 fun v44 H45 =>
        optW (extractV v44 0) fun v46 =>
        optW (extractV v44 1) fun v47 =>
        optW (extractV v44 2) fun v48 =>
        optW (zeroOf Try.prog 24) fun z50 => withW (.ptr (.new H45.next) 0) (newCells H45 (AV.cells z50)) fun p51 H49 =>
        storeW Try.prog H49 24 p51 v46 fun v52 H53 =>
        optW (binV Try.prog .eql 28 (.tmp 68) (.const (.int .i64 0)) v48 (.int .i64 0)) fun v54 =>
        optW (valG (wantsA v54 true) (some v47)) fun v55 =>
        optW (valG (wantsA v54 true) (some (.int .i64 ((encB x).length : Int)))) fun v56 =>
        optW (valG (wantsA v54 true) (binV Try.prog .eql 3 (.tmp 71) (.tmp 72) v55 v56)) fun v57 =>
        optW (pickV v54 v57 (.bool false)) fun v58 =>
        optW (valG (wantsA v58 true) (loadV Try.prog E H53 24 (.ptr (.new H.next) 0))) fun v59 =>
        optW (valG (wantsA v58 true) (loadV Try.prog E H53 24 p51)) fun v60 =>
        guardW (wantsA v58 true) (fun K => FnW Try.prog E w0 21 [v59, v60] H53 K) H53 fun v61 H62 =>
        optW (pickV v58 v61 (.bool false)) fun v63 =>
        guardW (wantsA v63 true) (fun K => FnW Try.prog E w0 11 [] H62 K) H62 fun v64 H65 =>
        optW (pickV v63 v64 (.bool false)) fun v66 =>
        v66 = .bool true := by
      rw [bs_27, o2S]
      obtain ⟨b1, b2, b3, F4⟩ := F3.newCells (bys [c])
      have hbc : newCells H3 [AV.int .u8 c] = newCells H3 (bys [c]) := rfl
      rw [hbc]
      have hfm := first_of (E := E) (cap := 1) (ex := true) (ms := [c]) b1
      obtain ⟨r', H5, e5, B5, k5, n5, F5⟩ := app_bytes (E := E) (ms := [c]) F4 (B3.keep fun all pre hg => b2 _ _ _ hg) hfm (by simp) (by simp; omega)
      have e5' : appendA Try.prog E (newCells H3 (bys [c])) 27 r 27 (.slc (.new H3.next) 0 1 1 true 1) = some (r', H5) := e5
      rw [e5', o2S]
      have g5 := k5 _ _ _ (show H.next ≠ k by omega) (b2 _ _ _ g3)
      have hc5 : CodeAt E All H5 r' (encB x ++ [c]) := B5.code trivial (fun b hb' => by
        rcases List.mem_append.1 hb' with h | h
        · exact hby b h
        · rw [List.mem_singleton.1 h]; exact hb) (by simp; omega)
      refine (decode_ok F5 hc5 (n := 0)).use ?_
      have hdec : decT (encB x ++ [c]) 0 = (x.dat, ((encB x).length, 0)) := by
        unfold decT
        rw [if_neg (by simp)]
        have := dec_enc hS [] [c]
        simpa using this
      rw [hdec]
      rintro v H6 ⟨s6, av, rfl, A6⟩ F6 n6
      simp only [ex0, ex1, ex2, oS]
      obtain ⟨y, hy⟩ : ∃ y : In, y = { x with av := av } := ⟨_, rfl⟩
      have hyc : (AV.agg [.int .u8 x.dat.1, .int .i64 x.dat.2.1, .int .i64 x.dat.2.2.1, av]) = .agg y.cells := by rw [hy]; rfl
      have hys : y.cells.all Am.scalar = true := by
        rw [hy]
        rcases A6 with ⟨rfl, _⟩ | ⟨o, i, cap, ex, sz, rfl, _⟩ <;> rfl
      rw [hyc]
      refine box24 F6 (by rw [hy]; rfl) hys fun H7 F7 s7 n7 g7 => ?_
      have q7 := s7 _ _ _ (s6 _ _ _ g5)
      have lx := (In.loads (E := E) q7).2.2.2.2
      have ly : loadV Try.prog E H7 24 (.ptr (.new H6.next) 0) = some (.agg y.cells) := by
        rw [ld_24, loadRange_new E g7, if_pos (by rw [hy]; simp [In.cells])]
        rw [hy]; rfl
      simp only [eqv_28, BEq.rfl, oS, wB, btt, vT, eqv_3, pB, if_true, lx, ly, gT]
      refine (same_ok F7 ho (ha H7) (y := y) ?_ (by rw [hy]) (by rw [hy]) (by rw [hy]) (by rw [hy])).toW.use ?_
      · have : y.av = av ∧ y.arms = x.arms := by rw [hy]; exact ⟨rfl, rfl⟩
        rw [this.1, this.2]
        exact (A6.keep (Keeps.of s7)).less F7 fun _ _ _ => trivial
      rintro v H8 ⟨rfl, s8⟩ F8 n8
      simp only [oS, wB, btt, gT, pB, if_true]
      refine works_ok.toW.use ?_
      rintro v H9 rfl _ _
      rfl
    rw [bin_lss, oS]
    by_cases hlt : i < (encB x).length
    case neg =>
      rw [dF (show ¬ (i : Int) < (encB x).length by omega)]
      simp only [wB, bft, vF, oS, pB, Bool.false_eq_true, if_false, cF]
      exact out
    rw [dT (show (i : Int) < (encB x).length by omega)]
    simp only [wB, btt, vT, oS, bin_lss, pB, if_true]
    by_cases h200 : i < 200
    case neg =>
      rw [dF (show ¬ (i : Int) < 200 by omega), cF]
      exact out
    rw [dT (show (i : Int) < 200 by omega), cT]
    obtain ⟨v', e', B'⟩ := B3.cut h0 (Nat.le_of_lt hlt)
    rw [e', oS]
    have hc3 : CodeAt E All H3 v' ((encB x).take i) := B'.code trivial (fun b hb' => hby b (List.mem_of_mem_take hb')) (by rw [List.length_take]; omega)
    refine (decode_ok F3 hc3 (n := 0)).use ?_
    have hdec : decT ((encB x).take i) 0 = (zDat, (0, 10)) := by
      unfold decT
      rw [if_neg (by rw [List.length_take]; omega)]
      exact dec_short hS hi1 hlt
    rw [hdec]
    rintro v H4 ⟨s4, av, rfl, A4⟩ F4 n4
    simp only [ex0, ex1, ex2, oS]
    refine box24 F4 (by rfl) (by
      rcases A4 with ⟨rfl, _⟩ | ⟨o, i, cap, ex, sz, rfl, _⟩ <;> rfl) fun H5 F5 s5 n5 g5 => ?_
    rw [nev_28, show ((10 : Int) != 10) = false from rfl, oS]
    simp only [wB, bff, vT, oS, nev_3, pB, Bool.false_eq_true, if_false]
    rw [show (((0 : Nat) : Int) != 0) = false from rfl, cF, bin_add, oS, wrap_i64 (by omega) (by omega)]
    exact ⟨n - 1, by omega, rfl, rfl, rfl, rfl, rfl, i + 1, by simp, by omega, by omega, F5, stays_trans s3 (stays_trans s4 s5)⟩
end Go.Proofs.Ytcboaonbfgjmgaa.op

/-
  Instructions of the caller's, read.
-/
open Go.Proofs Go Go.Am
namespace Go.Proofs.Ytcboaonbfgjmgaa.op
open Go.ChangeShapes Go.WideShapes Go.ChangeAt Go.RowKit
set_option linter.unusedVariables false
set_option linter.unusedSimpArgs false
set_option maxRecDepth 100000

theorem own : ownKnob Try.prog.godebug = none := by kernel_rfl
theorem laid : laidOutB Try.prog = true := by kernel_rfl

section
variable {H : Type} {enc : TypeId × Value → H} {P : Program} {W : World} {b0 : Nat} {sp : Nat → Bool} {hd : Bool}

theorem trod_int {n : Nat} {t : TypeId} {k : IntKind} {cs : List Value} {x : DataW H × List MemPlace} (ht : P.underlying t = some (.int k)) (h : DataW.trod enc P W b0 sp hd n t cs = some x) : ∃ z, cs = [.int k z] ∧ (Lit.int k z).wf = true := by
  cases n with
  | zero => simp [DataW.trod] at h
  | succ n =>
    simp only [DataW.trod, ht] at h
    split at h
    all_goals (first | (cases h; done) | skip)
    all_goals simp_all
    all_goals (first | (obtain ⟨⟨rfl, h2⟩, _⟩ := h; exact ⟨_, ⟨rfl, rfl⟩, h2⟩) | skip)
end

theorem mapM_get {α β : Type} {f : α → Option β} : ∀ {l : List α} {r : List β}, l.mapM f = some r → ∀ (i : Nat) (x : α), l[i]? = some x → ∃ y, r[i]? = some y ∧ f x = some y
  | [], r, h, i, x, hx => by simp at hx
  | a :: l, r, h, i, x, hx => by
    simp only [List.mapM_cons, Option.bind_eq_bind, Option.bind_eq_some_iff] at h
    obtain ⟨b, hb, bs, hbs, h⟩ := h
    cases h
    cases i with
    | zero => simp at hx; subst hx; exact ⟨b, rfl, hb⟩
    | succ i =>
      have hx' : l[i]? = some x := by simpa using hx
      obtain ⟨y, h1, h2⟩ := mapM_get hbs i x hx'
      exact ⟨y, by simpa using h1, h2⟩
theorem mapM_length {α β : Type} {f : α → Option β} : ∀ {l : List α} {r : List β}, l.mapM f = some r → r.length = l.length
  | [], r, h => by simp at h; subst h; rfl
  | a :: l, r, h => by
    simp only [List.mapM_cons, Option.bind_eq_bind, Option.bind_eq_some_iff] at h
    obtain ⟨b, hb, bs, hbs, h⟩ := h
    cases h
    simp [mapM_length hbs]
theorem weightsAll_mem {H : Type} {P : Program} {e : TypeId} : ∀ {l : List (DataW H)} {d : DataW H}, d ∈ l → ∀ n ∈ DataW.weights P e d, n ∈ DataW.weightsAll P e l
  | a :: l, d, h, n, hn => by
    simp only [DataW.weightsAll]
    rcases List.mem_cons.1 h with rfl | h
    · exact List.mem_append_left _ hn
    · exact List.mem_append_right _ (weightsAll_mem h n hn)

/-- A slice of things of a size: its cells. -/
theorem slice_cells {H : Type} {enc : TypeId × Value → H} {P : Program} {W : World} {hd : Bool} {n : Nat} {t e : TypeId} {sz : Nat} {cs : List Value} {x : DataW H × List MemPlace} (ht : P.underlying t = some (.slice e)) (hc : P.cellsOf e = sz) (hsz : 0 < sz)
    (h : DataW.trod enc P W 0 (fun _ => true) hd n t cs = some x) : ∃ c, cs = [c] ∧ ((old1 c = .nilSlc) ∨ ∃ (b i len cap m : Nat) (els : List (DataW H × List MemPlace)), old1 c = .slc (.old b) i len cap true 1 ∧ els.length = len ∧ (∀ d ∈ els, ∀ k ∈ DataW.weights P e d.1, k ∈ DataW.weights P t x.1) ∧
      (∀ k : Nat, len * P.bytesOf e ≤ k ∨ k ∈ DataW.weights P t x.1 ∨ True) ∧ (∃ k ∈ DataW.weights P t x.1, len * P.bytesOf e ≤ k) ∧
      ∀ j d, els[j]? = some d → ∃ (all : List AV) (vs : List Value), envOf W b = some all ∧ (all.drop (i + j * sz)).take sz = vs.map old1 ∧ DataW.trod enc P W 0 (fun _ => true) hd m e vs = some d) := by
  rcases DataW.trod_slice ht h with ⟨e1, _⟩ | ⟨a, len, cap, elems, rest, m, _, e1, hx, _, hl, hm, hlen, hel, hsp, _⟩
  · exact ⟨_, e1, .inl rfl⟩
  · refine ⟨_, e1, .inr ?_⟩
    have hd' : x.1 = .slice (elems.map (·.1)) (rest.map (·.1)) := by rw [hx]
    have hcell : ∀ {c : Addr} {cs : List Value}, W.cells? 0 c sz = some cs → cs.length = sz ∧ ∀ j, j < sz → ∃ x, cs[j]? = some x ∧ W.cell? (c.add j) = some x := by
      intro c cs hc
      unfold World.cells? at hc
      rw [if_pos (Nat.zero_le _)] at hc
      refine ⟨by have := mapM_length hc; simpa using this, fun j hj => ?_⟩
      obtain ⟨y, h1, h2⟩ := mapM_get hc j j (by rw [List.getElem?_range hj])
      exact ⟨y, h1, h2⟩
    have hs : cap = 0 ∨ a.spot = none := by
      by_cases h0 : cap = 0
      · exact .inl h0
      · right
        by_cases hl0 : len = 0
        · obtain ⟨r1, r2⟩ := hsp rfl
          have := r2 0 (by omega)
          rw [hc, hl0, List.getElem?_eq_getElem (by omega)] at this
          obtain ⟨cs, h1, _⟩ := Option.bind_eq_some_iff.1 this
          obtain ⟨x, _, h2⟩ := (hcell h1).2 0 hsz
          simp only [Nat.add_zero, Nat.zero_mul] at h2
          exact (spot_of_cell h2).1
        · have := hel 0 (by omega)
          rw [hc, List.getElem?_eq_getElem (by omega)] at this
          obtain ⟨cs, h1, _⟩ := Option.bind_eq_some_iff.1 this
          obtain ⟨x, _, h2⟩ := (hcell h1).2 0 hsz
          simp only [Nat.add_zero, Nat.zero_mul] at h2
          exact (spot_of_cell h2).1
    refine ⟨a.block, a.off, len, cap, m, elems, ?_, hlen, ?_, fun _ => .inr (.inr trivial), ⟨(elems.length + rest.length) * P.bytesOf e, ?_, ?_⟩, ?_⟩
    · simp only [old1]
      rw [if_pos ⟨hl, hs⟩]
    · intro d hdm k hk
      rw [hd']
      simp only [DataW.weights, ht]
      exact List.mem_cons_of_mem _ (List.mem_append_left _ (weightsAll_mem (d := d.1) (List.mem_map.2 ⟨d, hdm, rfl⟩) k hk))
    · rw [hd']; simp [DataW.weights, ht]
    · rw [hlen]; exact Nat.mul_le_mul_right _ (by omega)
    · intro i d hid
      have hi : i < len := by have := (List.getElem?_eq_some_iff.1 hid).1; omega
      have hi' := hel i hi
      rw [hc, hid] at hi'
      obtain ⟨cs, h1, h2⟩ := Option.bind_eq_some_iff.1 hi'
      obtain ⟨c1, c2⟩ := hcell h1
      have hs' : a.spot = none := hs.resolve_left (by omega)
      have hadd : ∀ j, (a.add (i * sz)).add j = ⟨a.block, a.off + i * sz + j, none⟩ := by
        intro j
        obtain ⟨b, of, s⟩ := a
        simp only at hs'
        subst hs'
        unfold Addr.add
        split <;> split <;> simp_all
      obtain ⟨x0, _, hx0⟩ := c2 0 hsz
      rw [hadd] at hx0
      obtain ⟨_, arr, el, fr, hb, _⟩ := spot_of_cell hx0
      simp only at hb
      refine ⟨arr.toList.map old1, cs, by unfold envOf; rw [hb], ?_, h2⟩
      refine List.ext_getElem? fun j => ?_
      rw [List.getElem?_take]
      split
      · rename_i hj
        obtain ⟨xj, hj1, hj2⟩ := c2 j hj
        rw [hadd] at hj2
        obtain ⟨_, arr', el', fr', hb', hj3⟩ := spot_of_cell hj2
        simp only at hb' hj3
        rw [hb] at hb'
        cases hb'
        rw [List.getElem?_drop, List.getElem?_map, Array.getElem?_toList, hj3, List.getElem?_map, hj1]
      · rename_i hj
        rw [List.getElem?_map, List.getElem?_eq_none (by omega)]
        rfl

theorem wf_i64 {z : Int} (h : (Lit.int .i64 z).wf = true) : I64 z := by
  simp only [Lit.wf, Bool.and_eq_true, decide_eq_true_eq] at h
  have h1 : IntKind.i64.min = -9223372036854775808 := rfl
  have h2 : IntKind.i64.max = 9223372036854775807 := rfl
  unfold I64
  omega
theorem wf_u8 {z : Int} (h : (Lit.int .u8 z).wf = true) : 0 ≤ z ∧ z ≤ 255 := by
  simp only [Lit.wf, Bool.and_eq_true, decide_eq_true_eq] at h
  have h1 : IntKind.u8.min = 0 := rfl
  have h2 : IntKind.u8.max = 255 := rfl
  omega

theorem arm_cells {H : Type} {enc : TypeId × Value → H} {W : World} {hd : Bool} {n : Nat} {cs : List Value} {x : DataW H × List MemPlace} (h : DataW.trod enc Try.prog W 0 (fun _ => true) hd n 49 cs = some x) : ∃ y : Int × Int, cs.map old1 = armc y ∧ I64 y.1 ∧ I64 y.2 := by
  cases n with
  | zero => simp [DataW.trod] at h
  | succ n =>
    simp only [DataW.trod, Try.underlying49] at h
    have s49 : Try.prog.cellsOf 49 = 2 := by kernel_rfl
    have s2 : Try.prog.cellsOf 2 = 1 := by kernel_rfl
    have s3 : Try.prog.cellsOf 3 = 1 := by kernel_rfl
    rw [s49] at h
    split at h
    · rename_i hl
      simp only [Option.map_eq_some_iff] at h
      obtain ⟨ys, hm, hxy⟩ := h
      have each := mapM_each hm
      simp only [List.forall_mem_cons] at each
      obtain ⟨⟨y0, k0⟩, ⟨y1, k1⟩, _⟩ := each
      match cs, hl with
      | [c0, c1], _ =>
      simp only [s2, s3, List.drop_zero, List.drop_succ_cons, List.take_succ_cons, List.take_zero] at k0 k1
      obtain ⟨z0, e0, w0⟩ := trod_int Try.underlying2 k0
      obtain ⟨z1, e1, w1⟩ := trod_int Try.underlying3 k1
      cases e0; cases e1
      exact ⟨(z0, z1), rfl, wf_i64 w0, wf_i64 w1⟩
    · cases h

theorem arms_of {H : Type} {enc : TypeId × Value → H} {W : World} {hd : Bool} {n : Nat} {cs : List Value} {x : DataW H × List MemPlace} (h : DataW.trod enc Try.prog W 0 (fun _ => true) hd n 22 cs = some x) (hw : ∀ n ∈ DataW.weights Try.prog 22 x.1, n ≤ reachBytes) :
    ∃ c arms, cs = [c] ∧ (∀ H', ArmsAt (envOf W) All H' (old1 c) arms) ∧ (∀ y ∈ arms, I64 y.1 ∧ I64 y.2) ∧ arms.length < 2 ^ 44 ∧ Am.scalar (old1 c) = true := by
  have s49 : Try.prog.cellsOf 49 = 2 := by kernel_rfl
  have b49 : Try.prog.bytesOf 49 = 16 := by kernel_rfl
  obtain ⟨c, e, h | ⟨b, i, len, cap, m, els, h1, h2, h3, _, ⟨k, h4, h5⟩, h6⟩⟩ := slice_cells (sz := 2) Try.underlying22 s49 (by decide) h
  · exact ⟨c, [], e, fun H' => .inl ⟨h, rfl⟩, by simp, by simp, by rw [h]; rfl⟩
  · have each : ∀ j, ∃ y : Int × Int, j < len → (I64 y.1 ∧ I64 y.2) ∧ ∃ all, envOf W b = some all ∧ (all.drop (i + j * 2)).take 2 = armc y := by
      intro j
      by_cases hj : j < len
      · obtain ⟨all, vs, g1, g2, g3⟩ := h6 j _ (List.getElem?_eq_getElem (by omega : j < els.length))
        obtain ⟨y, y1, y2⟩ := arm_cells g3
        exact ⟨y, fun _ => ⟨y2, all, g1, by rw [g2, y1]⟩⟩
      · exact ⟨(0, 0), fun h => (hj h).elim⟩
    obtain ⟨f, hf⟩ := Classical.axiomOfChoice each
    refine ⟨c, (List.range len).map f, e, fun H' => .inr ⟨.old b, i, cap, true, 1, by rw [h1]; simp, .inl ?_⟩, ?_, ?_, by rw [h1]; rfl⟩
    · by_cases h0 : len = 0
      · subst h0
        exact ⟨b, [], rfl, .inl rfl, fun j x hj => by simp at hj⟩
      · obtain ⟨_, all, g1, _⟩ := hf 0 (by omega)
        refine ⟨b, all, rfl, .inr g1, fun j x hj => ?_⟩
        have hjl : j < len := by have := (List.getElem?_eq_some_iff.1 hj).1; simpa using this
        rw [List.getElem?_map, List.getElem?_range hjl] at hj
        cases hj
        obtain ⟨_, all', g1', g2'⟩ := hf j hjl
        rw [g1] at g1'
        cases g1'
        exact g2'
    · intro y hy
      obtain ⟨j, hj, rfl⟩ := List.mem_map.1 hy
      exact (hf j (List.mem_range.1 hj)).1
    · have := hw k h4
      have := reachBytes_lt
      rw [b49] at h5
      simp only [List.length_map, List.length_range]
      omega

theorem instr_cells {H : Type} {enc : TypeId × Value → H} {W : World} {hd : Bool} {n : Nat} {cs : List Value} {x : DataW H × List MemPlace} (h : DataW.trod enc Try.prog W 0 (fun _ => true) hd n 24 cs = some x) (hw : ∀ n ∈ DataW.weights Try.prog 24 x.1, n ≤ reachBytes) :
    ∃ y : In, cs.map old1 = y.cells ∧ y.Ok ∧ (∀ H', ArmsAt (envOf W) All H' y.av y.arms) ∧ Am.scalar y.av = true := by
  cases n with
  | zero => simp [DataW.trod] at h
  | succ n =>
    simp only [DataW.trod, Try.underlying24] at h
    have s24 : Try.prog.cellsOf 24 = 4 := by kernel_rfl
    have s2 : Try.prog.cellsOf 2 = 1 := by kernel_rfl
    have s5 : Try.prog.cellsOf 5 = 1 := by kernel_rfl
    have s22 : Try.prog.cellsOf 22 = 1 := by kernel_rfl
    rw [s24] at h
    split at h
    · rename_i hl
      simp only [Option.map_eq_some_iff] at h
      obtain ⟨ys, hm, hxy⟩ := h
      have each := mapM_each hm
      obtain ⟨y3', k3i, k3j⟩ := mapM_get hm 3 _ rfl
      simp only [List.forall_mem_cons] at each
      obtain ⟨⟨y0, k0⟩, ⟨y1, k1⟩, ⟨y2, k2⟩, _⟩ := each
      match cs, hl with
      | [c0, c1, c2, c3], _ =>
      simp only [s2, s5, s22, List.drop_zero, List.drop_succ_cons, List.take_succ_cons, List.take_zero] at k0 k1 k2 k3j
      have hw3 : ∀ n ∈ DataW.weights Try.prog 22 y3'.1, n ≤ reachBytes := by
        intro n hn
        refine hw n ?_
        rw [← hxy]
        simp only [DataW.weights, Try.underlying24]
        exact DataW.weights_mem_each (j := 3) rfl (by rw [List.getElem?_map, k3i]; rfl) n hn
      obtain ⟨z0, e0, w0⟩ := trod_int Try.underlying5 k0
      obtain ⟨z1, e1, w1⟩ := trod_int Try.underlying2 k1
      obtain ⟨z2, e2, w2⟩ := trod_int Try.underlying2 k2
      obtain ⟨c, arms, e3, h1, h2, h3, h4⟩ := arms_of k3j hw3
      cases e0; cases e1; cases e2; cases e3
      exact ⟨⟨z0, z1, z2, old1 c3, arms⟩, rfl, ⟨wf_u8 w0, wf_i64 w1, wf_i64 w2, h2, h3⟩, h1, h4⟩
    · cases h
end Go.Proofs.Ytcboaonbfgjmgaa.op
