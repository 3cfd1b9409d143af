/-
  Texts Pa Dk Ca Cb, as far as they are used.
-/
import Derived.Test.YtchnpgddpaonhaaUau
section
namespace Go.Op
open Go.Am
set_option linter.unusedVariables false
set_option linter.unusedSimpArgs false
set_option maxRecDepth 100000
/-- Between which numbers a width's are. -/
def fitLo (w : Int) : Int := if w = 1 then -128 else if w = 2 then -2147483648 else if w = 3 then -9223372036854775808 else 1
def fitHi (w : Int) : Int := if w = 1 then 127 else if w = 2 then 2147483647 else if w = 3 then 9223372036854775807 else 0
def I64 (n : Int) : Prop := -9223372036854775808 ≤ n ∧ n ≤ 9223372036854775807
/-- word.Bits. -/
def bitsS (w : Int) : Int := if w = 1 then 8 else if w = 2 then 32 else if w = 3 then 64 else 0
/-- word.Wrap. -/
def wrapS (w n : Int) : Int := if w = 1 then IntKind.i64.wrap (IntKind.i8.wrap n) else if w = 2 then IntKind.i64.wrap (IntKind.i32.wrap n) else if w = 3 then n else 0
theorem u8_wrap (n : Int) : IntKind.u8.wrap n = n % 256 := by
  simp only [IntKind.wrap, IntKind.bits, IntKind.signed]; simp
theorem u64_wrap (n : Int) : IntKind.u64.wrap n = n % 18446744073709551616 := by
  simp only [IntKind.wrap, IntKind.bits, IntKind.signed]; simp
def byteAt (n : Int) (i : Nat) : Int := (n / 2 ^ (8 * i)) % 256
/-- A number's lowest bytes. -/
def fixS (n : Int) (size : Nat) : List Int := (List.range size).map (byteAt n)
theorem fixS_length (n : Int) (s : Nat) : (fixS n s).length = s := by simp [fixS]
/-- A number behind an Op. -/
structure Fld where
  size : Nat
  lo : Int
  hi : Int
  deriving DecidableEq
def fIx : Fld := ⟨2, 0, 65535⟩
def fLeap : Fld := ⟨4, 0, 4294967295⟩
def fWid : Fld := ⟨1, 1, 3⟩
def lay3 (b : Bool) (op : Int) : Option (List Fld) :=
  if b then some [fLeap] else if op = 52 then some [⟨1, 0, 255⟩] else if op = 49 then some [fWid]
  else if 11 ≤ op ∧ op ≤ 28 then some [fWid] else if 1 ≤ op ∧ op ≤ 52 then some [] else none
def lay2 (b : Bool) (op : Int) : Option (List Fld) :=
  if b then some [⟨1, 1, 5⟩] else if op = 29 then some [fWid, fWid] else lay3 (op == 46 || op == 47 || op == 48) op
def lay1 (b : Bool) (op : Int) : Option (List Fld) := if b then some [fIx, fIx] else lay2 (op == 23 || op == 24) op
def lay0 (b : Bool) (op : Int) : Option (List Fld) := if b then some [fIx] else lay1 (op == 37 || op == 38) op
/-- What stands behind an Op. -/
def lay (op : Int) : Option (List Fld) :=
  if op = 1 then some [⟨1, fitLo 1, fitHi 1⟩] else if op = 2 then some [⟨4, fitLo 2, fitHi 2⟩] else if op = 3 then some [⟨8, fitLo 3, fitHi 3⟩]
  else lay0 (op == 6 || op == 7 || op == 8 || op == 50 || op == 36 || op == 39 || op == 40 || op == 41 || op == 42 || op == 43 || op == 44 || op == 45) op
/-- An instruction. -/
structure In where
  op : Int
  a : Int
  b : Int
  arms : List (Int × Int)
structure In.Ok (x : In) : Prop where
  op : 0 ≤ x.op ∧ x.op ≤ 255
  a : I64 x.a
  b : I64 x.b
  arms : ∀ y ∈ x.arms, I64 y.1 ∧ I64 y.2
  short : x.arms.length < 2 ^ 44
def Fld.may (f : Fld) (n : Int) : Bool := decide (f.lo ≤ n ∧ n ≤ f.hi)
def In.num (x : In) (i : Nat) : Int := if i = 1 then x.b else x.a
def fldB (x : In) : Nat → List Fld → List Int
  | _, [] => []
  | i, f :: l => fixS (x.num i) f.size ++ fldB x (i + 1) l
def fldOk (x : In) : Nat → List Fld → Bool
  | _, [] => true
  | i, f :: l => f.may (x.num i) && fldOk x (i + 1) l
def armB (y : Int × Int) : List Int := fixS y.1 8 ++ fixS y.2 4
def armOk (w : Int) (y : Int × Int) : Bool := decide (fitLo w ≤ y.1 ∧ y.1 ≤ fitHi w) && decide (0 ≤ y.2 ∧ y.2 ≤ 4294967295)
/-- Is it an instruction? -/
def isS (x : In) : Bool :=
  (lay x.op).isSome && fldOk x 0 ((lay x.op).getD []) &&
    if x.op = 49 then decide (x.arms.length ≤ 65535) && x.arms.all (armOk (IntKind.u8.wrap x.a)) && decide (0 ≤ x.b ∧ x.b ≤ 4294967295)
    else decide (x.arms.length = 0) && (decide (2 ≤ ((lay x.op).getD []).length) || decide (x.b = 0)) && (decide (1 ≤ ((lay x.op).getD []).length) || decide (x.a = 0))
def armsB (arms : List (Int × Int)) : List Int := arms.flatMap armB
/-- Its bytes. -/
def encB (x : In) : List Int := x.op :: fldB x 0 ((lay x.op).getD []) ++ if x.op = 49 then fixS x.arms.length 2 ++ armsB x.arms ++ fixS x.b 4 else []
def goodLay (l : Option (List Fld)) : Bool := (l.getD []).all (fun f => decide (1 ≤ f.size ∧ f.size ≤ 8)) && decide ((l.getD []).length ≤ 2)
theorem good_ite {c : Prop} [Decidable c] {a b : Option (List Fld)} (ha : goodLay a = true) (hb : goodLay b = true) : goodLay (if c then a else b) = true := by
  by_cases h : c
  · rw [if_pos h]; exact ha
  · rw [if_neg h]; exact hb
theorem lay_good (op : Int) : goodLay (lay op) = true := by
  unfold lay lay0 lay1 lay2 lay3
  repeat' apply good_ite
  all_goals rfl
theorem lay_length {op : Int} : ((lay op).getD []).length ≤ 2 := by
  have h := lay_good op
  simp only [goodLay, Bool.and_eq_true, List.all_eq_true, decide_eq_true_eq] at h
  exact h.2
theorem armsB_length : ∀ l : List (Int × Int), (armsB l).length = 12 * l.length
  | [] => rfl
  | y :: l => by
    have := armsB_length l
    simp only [armsB, List.flatMap_cons, List.length_append, armB, fixS_length, List.length_cons] at this ⊢
    omega
/-- A number of bytes, the lowest first. -/
def leN : List Int → Nat
  | [] => 0
  | b :: l => b.toNat + 256 * leN l
def Byte (b : Int) : Prop := 0 ≤ b ∧ b ≤ 255
theorem fixS_succ (n : Int) (s : Nat) : fixS n (s + 1) = byteAt n 0 :: fixS (n / 256) s := by
  unfold fixS
  rw [List.range_succ_eq_map, List.map_cons, List.map_map]
  congr 1
  refine List.map_congr_left fun i _ => ?_
  simp only [Function.comp, byteAt]
  rw [show 8 * (i + 1) = 8 + 8 * i by omega, Int.pow_add, ← Int.ediv_ediv_of_nonneg (by decide)]
  rfl
theorem byte_fix (n : Int) (s : Nat) : ∀ b ∈ fixS n s, Byte b := by
  intro b hb
  obtain ⟨i, _, rfl⟩ := List.mem_map.1 hb
  unfold byteAt Byte
  omega
theorem leN_fix : ∀ (s : Nat) (n : Int), (leN (fixS n s) : Int) = n % 2 ^ (8 * s)
  | 0, n => by simp [fixS, leN, Int.emod_one]
  | s + 1, n => by
    have ih := leN_fix s (n / 256)
    rw [fixS_succ, leN]
    have hM : (0 : Int) < 2 ^ (8 * s) := Int.pow_pos (by decide)
    have hp : (2 : Int) ^ (8 * (s + 1)) = 256 * 2 ^ (8 * s) := by rw [show 8 * (s + 1) = 8 + 8 * s by omega, Int.pow_add]; rfl
    have hb : ((byteAt n 0).toNat : Int) = n % 256 := by
      have : byteAt n 0 = n % 256 := by simp [byteAt]
      rw [this]; omega
    rw [Int.natCast_add, Int.natCast_mul, ih, hb, hp]
    have h1 := Int.emod_nonneg (n / 256) (show (2 : Int) ^ (8 * s) ≠ 0 by omega)
    have h2 := Int.emod_lt_of_pos (n / 256) hM
    have h3 := Int.mul_ediv_add_emod (n / 256) (2 ^ (8 * s))
    have h4 := Int.mul_ediv_add_emod n 256
    refine ((Int.ediv_emod_unique (a := n) (b := 256 * 2 ^ (8 * s)) (q := n / 256 / 2 ^ (8 * s)) (by omega)).2 ⟨?_, by omega, ?_⟩).2.symm
    · have : 256 * 2 ^ (8 * s) * (n / 256 / 2 ^ (8 * s)) = 256 * (2 ^ (8 * s) * (n / 256 / 2 ^ (8 * s))) := by rw [Int.mul_assoc]
      rw [this]
      omega
    · omega
theorem leN_inj : ∀ {l m : List Int}, (∀ b ∈ l, Byte b) → (∀ b ∈ m, Byte b) → l.length = m.length → leN l = leN m → l = m
  | [], [], _, _, _, _ => rfl
  | [], b :: m, _, _, h, _ => by simp at h
  | a :: l, [], _, _, h, _ => by simp at h
  | a :: l, b :: m, hl, hm, h, e => by
    obtain ⟨a0, a1⟩ := hl a (by simp)
    obtain ⟨b0, b1⟩ := hm b (by simp)
    simp only [leN] at e
    have hab : a = b := by omega
    have hlm : leN l = leN m := by omega
    rw [hab, leN_inj (fun x hx => hl x (by simp [hx])) (fun x hx => hm x (by simp [hx])) (by simpa using h) hlm]
theorem leN_lt : ∀ {l : List Int}, (∀ b ∈ l, Byte b) → leN l < 2 ^ (8 * l.length)
  | [], _ => by simp [leN]
  | a :: l, h => by
    obtain ⟨a0, a1⟩ := h a (by simp)
    have ih := leN_lt (fun x hx => h x (by simp [hx]) : ∀ b ∈ l, Byte b)
    have hp : 2 ^ (8 * (l.length + 1)) = 256 * 2 ^ (8 * l.length) := by rw [show 8 * (l.length + 1) = 8 + 8 * l.length by omega, Nat.pow_add]
    rw [leN, List.length_cons, hp]
    omega
/-- A field that a number can be told for. -/
def goodF (f : Fld) : Prop := 1 ≤ f.size ∧ ((f.size ≤ 7 ∧ 0 ≤ f.lo ∧ f.hi < 2 ^ (8 * f.size)) ∨ (f.size ≤ 7 ∧ -(2 ^ (8 * f.size - 1)) ≤ f.lo ∧ f.hi < 2 ^ (8 * f.size - 1)) ∨ (f.size = 8 ∧ -9223372036854775808 ≤ f.lo ∧ f.hi ≤ 9223372036854775807))
/-- The number that bytes tell, if it may be. -/
def rdN (f : Fld) (u : Nat) : Option Int :=
  let n := IntKind.i64.wrap (u : Int)
  let n' := if f.may n = false ∧ f.size < 8 then n - 2 ^ (8 * f.size) else n
  if f.may n' = true then some n' else none
theorem i64_mod (z : Int) : IntKind.i64.wrap z % 18446744073709551616 = z % 18446744073709551616 := by
  simp only [IntKind.wrap, IntKind.bits, IntKind.signed]; simp
  split <;> omega
theorem rdN_mod {f : Fld} {u : Nat} {n : Int} (h : rdN f u = some n) (h8 : f.size ≤ 8) : f.may n = true ∧ n % 2 ^ (8 * f.size) = (u : Int) % 2 ^ (8 * f.size) := by
  unfold rdN at h
  simp only at h
  obtain ⟨n', hn'⟩ : ∃ n', n' = if f.may (IntKind.i64.wrap (u : Int)) = false ∧ f.size < 8 then IntKind.i64.wrap (u : Int) - 2 ^ (8 * f.size) else IntKind.i64.wrap (u : Int) := ⟨_, rfl⟩
  rw [← hn'] at h
  have hw : IntKind.i64.wrap (u : Int) % 2 ^ (8 * f.size) = (u : Int) % 2 ^ (8 * f.size) := by
    have hd : ((2 : Int) ^ (8 * f.size)) ∣ 18446744073709551616 := by
      refine ⟨2 ^ (64 - 8 * f.size), ?_⟩
      rw [← Int.pow_add, show 8 * f.size + (64 - 8 * f.size) = 64 by omega]
      rfl
    rw [← Int.emod_emod_of_dvd _ hd, i64_mod, Int.emod_emod_of_dvd _ hd]
  split at h
  · rename_i hm
    cases h
    refine ⟨hm, ?_⟩
    rw [hn']
    split
    · rw [Int.sub_emod_right]; exact hw
    · exact hw
  · cases h
/-- A field, read. -/
def rdS (bs : List Int) (f : Fld) (s : Nat × Int) : Int × Nat × Int :=
  if s.2 ≠ 0 then (0, s.1, s.2) else if bs.length < s.1 + f.size then (0, s.1, 10) else
  match rdN f (leN ((bs.drop s.1).take f.size)) with
  | some n => (n, s.1 + f.size, 0)
  | none => (0, s.1, 120)
theorem rdS_err {bs : List Int} {f : Fld} {s : Nat × Int} (h : s.2 ≠ 0) : rdS bs f s = (0, s) := by
  unfold rdS
  rw [if_pos h]
/-- What is read was written. -/
theorem rdS_is {bs : List Int} (hb : ∀ b ∈ bs, Byte b) {f : Fld} (h8 : f.size ≤ 8) {at_ : Nat} {n : Int} {at' : Nat} (h : rdS bs f (at_, 0) = (n, at', 0)) : f.may n = true ∧ at' = at_ + f.size ∧ at' ≤ bs.length ∧ (bs.drop at_).take f.size = fixS n f.size := by
  unfold rdS at h
  rw [if_neg (by simp)] at h
  split at h
  · cases h
  rename_i hlen
  simp only at h hlen
  split at h
  · rename_i m hm
    cases h
    obtain ⟨g1, g2⟩ := rdN_mod hm h8
    have hbs : ∀ b ∈ (bs.drop at_).take f.size, Byte b := fun b hb' => hb b (List.mem_of_mem_drop (List.mem_of_mem_take hb'))
    have hl : ((bs.drop at_).take f.size).length = f.size := by rw [List.length_take, List.length_drop]; omega
    refine ⟨g1, rfl, by omega, leN_inj hbs (byte_fix _ _) (by rw [hl, fixS_length]) ?_⟩
    have e1 := leN_fix f.size n
    have e2 := leN_lt hbs
    rw [hl] at e2
    have e3 : ((leN ((bs.drop at_).take f.size) : Nat) : Int) < 2 ^ (8 * f.size) := by exact_mod_cast e2
    rw [g2, Int.emod_eq_of_lt (by omega) e3] at e1
    omega
  · cases h
def vF (w : Int) : Fld := ⟨8, fitLo w, fitHi w⟩
def rdArms (bs : List Int) (w : Int) : Nat → Nat × Int → List (Int × Int) → List (Int × Int) × (Nat × Int)
  | 0, s, acc => (acc, s)
  | n + 1, s, acc => if s.2 ≠ 0 then (acc, s) else
    rdArms bs w n (rdS bs fLeap (rdS bs (vF w) s).2).2 (acc ++ [((rdS bs (vF w) s).1, (rdS bs fLeap (rdS bs (vF w) s).2).1)])
def rdFields (bs : List Int) : List Fld → Nat × Int → Int × Int × (Nat × Int)
  | [], s => (0, 0, s)
  | [f], s => ((rdS bs f s).1, 0, (rdS bs f s).2)
  | f :: g :: _, s => ((rdS bs f s).1, (rdS bs g (rdS bs f s).2).1, (rdS bs g (rdS bs f s).2).2)
abbrev Dat := Int × Int × Int × List (Int × Int)
/-- A switch's arms and its last place. -/
def decSw (bs : List Int) (op a : Int) (s : Nat × Int) : Dat × (Nat × Int) :=
  ((op, a, (rdS bs fLeap (rdArms bs (IntKind.u8.wrap a) (rdS bs fIx s).1.toNat (rdS bs fIx s).2 []).2).1, (rdArms bs (IntKind.u8.wrap a) (rdS bs fIx s).1.toNat (rdS bs fIx s).2 []).1),
    (rdS bs fLeap (rdArms bs (IntKind.u8.wrap a) (rdS bs fIx s).1.toNat (rdS bs fIx s).2 []).2).2)
def decX (bs : List Int) (at_ : Nat) : Dat × (Nat × Int) :=
  if bs.getD at_ 0 = 49 then decSw bs 49 (rdFields bs ((lay (bs.getD at_ 0)).getD []) (at_ + 1, 0)).1 (rdFields bs ((lay (bs.getD at_ 0)).getD []) (at_ + 1, 0)).2.2
  else ((bs.getD at_ 0, (rdFields bs ((lay (bs.getD at_ 0)).getD []) (at_ + 1, 0)).1, (rdFields bs ((lay (bs.getD at_ 0)).getD []) (at_ + 1, 0)).2.1, []), (rdFields bs ((lay (bs.getD at_ 0)).getD []) (at_ + 1, 0)).2.2)
def zDat : Dat := (0, 0, 0, [])
/-- The instruction at a place, the place behind it, or the error. -/
def decS (bs : List Int) (at_ : Nat) : Dat × (Nat × Int) :=
  if lay (bs.getD at_ 0) = none then (zDat, (0, 120)) else if (decX bs at_).2.2 ≠ 0 then (zDat, (0, (decX bs at_).2.2)) else decX bs at_
def In.dat (x : In) : Dat := (x.op, x.a, x.b, x.arms)
theorem goodF_ite {c : Prop} [Decidable c] {a b : Option (List Fld)} (ha : ∀ f ∈ a.getD [], goodF f) (hb : ∀ f ∈ b.getD [], goodF f) : ∀ f ∈ (if c then a else b).getD [], goodF f := by
  by_cases h : c
  · rw [if_pos h]; exact ha
  · rw [if_neg h]; exact hb
theorem goodF_lay (op : Int) : ∀ f ∈ (lay op).getD [], goodF f := by
  unfold lay lay0 lay1 lay2 lay3
  repeat' apply goodF_ite
  all_goals (intro f hf; simp only [Option.getD_some, Option.getD_none, List.mem_cons, List.not_mem_nil, or_false, or_self, false_or, fIx, fLeap, fWid] at hf)
  all_goals (subst hf)
  all_goals (first | exact ⟨by decide, .inl ⟨by decide, by decide, by decide⟩⟩ | exact ⟨by decide, .inr (.inl ⟨by decide, by decide, by decide⟩)⟩ | exact ⟨by decide, .inr (.inr ⟨by decide, by decide, by decide⟩)⟩)
theorem goodF_leap : goodF fLeap := ⟨by decide, .inl ⟨by decide, by decide, by decide⟩⟩
theorem goodF_v (w : Int) : goodF (vF w) := by
  refine ⟨by show 1 ≤ 8; omega, .inr (.inr ⟨rfl, ?_, ?_⟩)⟩
  · show _ ≤ fitLo w
    unfold fitLo
    repeat' split
    all_goals omega
  · show fitHi w ≤ _
    unfold fitHi
    repeat' split
    all_goals omega
theorem armOk_v (w : Int) (y : Int × Int) : armOk w y = ((vF w).may y.1 && fLeap.may y.2) := rfl
theorem lay49 {l : List Fld} {op : Int} (h : lay op = some l) (h49 : op = 49) : l = [fWid] := by
  rw [h49] at h
  have : lay 49 = some [fWid] := rfl
  rw [this] at h
  cases h
  rfl
theorem leN_snoc : ∀ (l : List Int) (b : Int), leN (l ++ [b]) = leN l + b.toNat * 2 ^ (8 * l.length)
  | [], b => by simp [leN]
  | a :: l, b => by
    have hp : 2 ^ (8 * (l.length + 1)) = 256 * 2 ^ (8 * l.length) := by rw [show 8 * (l.length + 1) = 8 + 8 * l.length by omega, Nat.pow_add]
    rw [List.cons_append, leN, leN, leN_snoc l b, List.length_cons, hp, Nat.mul_add, ← Nat.add_assoc]
    congr 1
    rw [Nat.mul_left_comm]
theorem rdS_le {bs : List Int} {f : Fld} {s : Nat × Int} (h : s.1 ≤ bs.length) : (rdS bs f s).2.1 ≤ bs.length := by
  unfold rdS
  split
  · exact h
  split
  · exact h
  · split
    · simp only; omega
    · exact h
theorem i64_of_wrap (u : Int) : I64 (IntKind.i64.wrap u) := by
  unfold I64
  simp only [IntKind.wrap, IntKind.bits, IntKind.signed]; simp
  split <;> omega
def foldF (bs : List Int) : Nat → Int → Int → Nat × Int → List Fld → Int × Int × (Nat × Int)
  | _, a, b, s, [] => (a, b, s)
  | i, a, b, s, f :: l => foldF bs (i + 1) (if i = 0 then (rdS bs f s).1 else a) (if i = 0 then b else (rdS bs f s).1) (rdS bs f s).2 l
theorem foldF_is {bs : List Int} {s : Nat × Int} : ∀ {l : List Fld}, l.length ≤ 2 → foldF bs 0 0 0 s l = rdFields bs l s
  | [], _ => rfl
  | [f], _ => rfl
  | [f, g], _ => rfl
  | _ :: _ :: _ :: _, h => by simp at h
/-- Decode at any place. -/
def decT (bs : List Int) (n : Int) : Dat × (Nat × Int) := if n < 0 ∨ n ≥ bs.length then (zDat, (0, 2)) else decS bs n.toNat
section
variable {bs es : List Int} {i : Nat} {f : Fld} {s sb sE : Nat × Int}
theorem rdS_stick (h : (rdS bs f s).2.2 = 0) : s.2 = 0 := by
  by_cases hs : s.2 = 0
  · exact hs
  · rw [rdS_err hs] at h; exact h
theorem rdArms_err {w : Int} {n : Nat} {acc : List (Int × Int)} (h : s.2 ≠ 0) : rdArms bs w n s acc = (acc, s) := by
  cases n with
  | zero => rfl
  | succ n => rw [rdArms, if_pos h]
theorem rdArms_stick {w : Int} {n : Nat} {acc : List (Int × Int)} (h : (rdArms bs w n s acc).2.2 = 0) : s.2 = 0 := by
  by_cases hs : s.2 = 0
  · exact hs
  · rw [rdArms_err hs] at h; exact h
end
theorem enc_pos (x : In) : 1 ≤ (encB x).length := by unfold encB; simp
section
variable {bs l m : List Int} {f : Fld} {s : Nat × Int} {p : Nat}
/-- What stands at a place. -/
def Seg (bs : List Int) (p : Nat) (l : List Int) : Prop := p + l.length ≤ bs.length ∧ (bs.drop p).take l.length = l
theorem Seg.append (h : Seg bs p l) (g : Seg bs (p + l.length) m) : Seg bs p (l ++ m) := by
  obtain ⟨h1, h2⟩ := h
  obtain ⟨g1, g2⟩ := g
  refine ⟨by rw [List.length_append]; omega, ?_⟩
  rw [List.length_append, List.take_add, h2, List.drop_drop, g2]
theorem Seg.nil (h : p ≤ bs.length) : Seg bs p [] := ⟨by simpa using h, rfl⟩
theorem rd_seg (hb : ∀ b ∈ bs, Byte b) (h8 : f.size ≤ 8) (h : (rdS bs f s).2.2 = 0) : s.2 = 0 ∧ f.may (rdS bs f s).1 = true ∧ (rdS bs f s).2.1 = s.1 + f.size ∧ Seg bs s.1 (fixS (rdS bs f s).1 f.size) := by
  have h0 := rdS_stick h
  obtain ⟨p, e⟩ := s
  simp only at h0
  subst h0
  obtain ⟨n, q, e, hr⟩ : ∃ n q e, rdS bs f (p, 0) = (n, q, e) := ⟨_, _, _, rfl⟩
  rw [hr] at h ⊢
  simp only at h
  subst h
  obtain ⟨a1, a2, a3, a4⟩ := rdS_is hb h8 hr
  exact ⟨rfl, a1, a2, by rw [fixS_length]; simp only; omega, by rw [fixS_length]; exact a4⟩
theorem rdS_le' (h : s.1 ≤ bs.length) : (rdS bs f s).2.1 ≤ bs.length := by
  unfold rdS
  split
  · exact h
  split
  · exact h
  · split
    · simp only; omega
    · exact h
theorem goodF_size (h : goodF f) : f.size ≤ 8 := by
  obtain ⟨_, h | h | h⟩ := h <;> omega
theorem may_i64 {n : Int} (h : goodF f) (hm : f.may n = true) : I64 n := by
  have hm := of_decide_eq_true hm
  obtain ⟨h1, ⟨h7, hlo, hhi⟩ | ⟨h7, hlo, hhi⟩ | ⟨h8, hlo, hhi⟩⟩ := h
  · have hle : (2 : Int) ^ (8 * f.size) ≤ 2 ^ 56 := by
      have : 2 ^ (8 * f.size) ≤ 2 ^ 56 := Nat.pow_le_pow_right (by decide) (by omega)
      exact_mod_cast this
    exact ⟨by omega, by omega⟩
  · have hle : (2 : Int) ^ (8 * f.size - 1) ≤ 2 ^ 56 := by
      have : 2 ^ (8 * f.size - 1) ≤ 2 ^ 56 := Nat.pow_le_pow_right (by decide) (by omega)
      exact_mod_cast this
    exact ⟨by omega, by omega⟩
  · exact ⟨by omega, by omega⟩
theorem fields_seg (hb : ∀ b ∈ bs, Byte b) {x : In} : ∀ {l : List Fld}, (∀ f ∈ l, goodF f) → l.length ≤ 2 → s.1 ≤ bs.length → (rdFields bs l s).2.2.2 = 0 → (x.a = (rdFields bs l s).1) → (2 ≤ l.length → x.b = (rdFields bs l s).2.1) →
    fldOk x 0 l = true ∧ Seg bs s.1 (fldB x 0 l) ∧ (rdFields bs l s).2.2.1 = s.1 + (fldB x 0 l).length ∧ I64 x.a ∧ (2 ≤ l.length → I64 x.b) ∧ (l.length < 2 → (rdFields bs l s).2.1 = 0) ∧ (l.length < 1 → x.a = 0)
  | [], _, _, hs, h, ha, _ => by
    have ha : x.a = 0 := ha
    exact ⟨rfl, Seg.nil hs, rfl, by rw [ha]; exact ⟨by decide, by decide⟩, fun h => by simp at h, fun _ => rfl, fun _ => ha⟩
  | [f], hg, _, hs, h, ha, _ => by
    have hf := hg f (by simp)
    obtain ⟨h0, h1, h2, h3⟩ := rd_seg hb (goodF_size hf) (show (rdS bs f s).2.2 = 0 from h)
    have ha : x.a = (rdS bs f s).1 := ha
    have hn : x.num 0 = (rdS bs f s).1 := ha
    refine ⟨by simp [fldOk, hn, h1], by simpa [fldB, hn] using h3, ?_, by rw [ha]; exact may_i64 hf h1, fun h => by simp at h, fun _ => rfl, fun h => by simp at h⟩
    simp only [fldB, hn, List.append_nil, fixS_length]
    exact h2
  | [f, g], hg, _, hs, h, ha, hbb => by
    have hf := hg f (by simp)
    have hg := hg g (by simp)
    have hb2 : x.b = (rdS bs g (rdS bs f s).2).1 := hbb (by simp)
    obtain ⟨k0, k1, k2, k3⟩ := rd_seg hb (goodF_size hg) (show (rdS bs g (rdS bs f s).2).2.2 = 0 from h)
    obtain ⟨h0, h1, h2, h3⟩ := rd_seg hb (goodF_size hf) k0
    have ha : x.a = (rdS bs f s).1 := ha
    have hn : x.num 0 = (rdS bs f s).1 := ha
    have hn1 : x.num 1 = (rdS bs g (rdS bs f s).2).1 := hb2
    refine ⟨by simp [fldOk, hn, hn1, h1, k1], ?_, ?_, by rw [ha]; exact may_i64 hf h1, fun _ => by rw [hb2]; exact may_i64 hg k1, fun h => by simp at h, fun h => by simp at h⟩
    · simp only [fldB, hn, hn1, List.append_nil]
      refine h3.append ?_
      rw [fixS_length, ← h2]; exact k3
    · simp only [fldB, hn, hn1, List.append_nil, List.length_append, fixS_length]
      show (rdS bs g (rdS bs f s).2).2.1 = _
      omega
  | _ :: _ :: _ :: _, _, h, _, _, _, _ => by simp at h
theorem arms_seg (hb : ∀ b ∈ bs, Byte b) {w : Int} : ∀ (n : Nat) (s : Nat × Int) (acc : List (Int × Int)), s.1 ≤ bs.length → (rdArms bs w n s acc).2.2 = 0 →
    ∃ new, (rdArms bs w n s acc).1 = acc ++ new ∧ new.length = n ∧ new.all (armOk w) = true ∧ Seg bs s.1 (armsB new) ∧ (rdArms bs w n s acc).2.1 = s.1 + (armsB new).length ∧ (∀ y ∈ new, I64 y.1 ∧ I64 y.2)
  | 0, s, acc, hs, h => ⟨[], by simp [rdArms], rfl, rfl, Seg.nil hs, rfl, fun y hy => by cases hy⟩
  | n + 1, s, acc, hs, h => by
    have h0 := rdArms_stick h
    have eE : rdArms bs w (n + 1) s acc = rdArms bs w n (rdS bs fLeap (rdS bs (vF w) s).2).2 (acc ++ [((rdS bs (vF w) s).1, (rdS bs fLeap (rdS bs (vF w) s).2).1)]) := by rw [rdArms, if_neg (by simp [h0])]
    rw [eE] at h ⊢
    obtain ⟨k0, k1, k2, k3⟩ := rd_seg hb (by decide) (rdArms_stick h : (rdS bs fLeap (rdS bs (vF w) s).2).2.2 = 0)
    obtain ⟨h0, h1, h2, h3⟩ := rd_seg hb (by show 8 ≤ 8; omega) k0
    have hle : (rdS bs fLeap (rdS bs (vF w) s).2).2.1 ≤ bs.length := by
      have := k3.1
      rw [fixS_length] at this
      omega
    obtain ⟨new, e1, e2, e3, e4, e5, e6⟩ := arms_seg hb n _ _ hle h
    have sz1 : (vF w).size = 8 := rfl
    have sz2 : fLeap.size = 4 := rfl
    refine ⟨((rdS bs (vF w) s).1, (rdS bs fLeap (rdS bs (vF w) s).2).1) :: new, by rw [e1]; simp, by simp [e2], ?_, ?_, ?_, ?_⟩
    · rw [List.all_cons, armOk_v, h1, k1, e3]; rfl
    · have : armsB (((rdS bs (vF w) s).1, (rdS bs fLeap (rdS bs (vF w) s).2).1) :: new) = (fixS (rdS bs (vF w) s).1 8 ++ fixS (rdS bs fLeap (rdS bs (vF w) s).2).1 4) ++ armsB new := by simp [armsB, armB]
      rw [this]
      refine (Seg.append h3 ?_).append ?_
      · rw [fixS_length, ← h2]; exact k3
      · rw [List.length_append, fixS_length, fixS_length]
        rw [sz1] at h2
        rw [sz2] at k2
        have : s.1 + (8 + 4) = (rdS bs fLeap (rdS bs (vF w) s).2).2.1 := by omega
        rw [sz1, this]; exact e4
    · rw [e5, armsB_length, armsB_length, List.length_cons]
      omega
    · intro y hy
      rcases List.mem_cons.1 hy with rfl | hy
      · exact ⟨may_i64 (goodF_v w) h1, may_i64 goodF_leap k1⟩
      · exact e6 y hy
/-- What is read was written. -/
theorem dec_is (hb : ∀ b ∈ bs, Byte b) (hp : p < bs.length) {op a b : Int} {arms : List (Int × Int)} {next : Nat} (h : decS bs p = ((op, a, b, arms), (next, 0))) {x : In} (hx : x.dat = (op, a, b, arms)) :
    x.Ok ∧ isS x = true ∧ Seg bs p (encB x) ∧ next = p + (encB x).length := by
  have hlay : lay (bs.getD p 0) ≠ none := by
    intro e
    unfold decS at h
    rw [if_pos e] at h
    have := congrArg (fun d => d.2.2) h
    simp at this
  have hX : decX bs p = ((op, a, b, arms), (next, 0)) := by
    unfold decS at h
    rw [if_neg hlay] at h
    by_cases h0 : (decX bs p).2.2 = 0
    · rw [if_neg (by simp [h0])] at h; exact h
    · rw [if_pos h0] at h
      have := congrArg (fun d => d.2.2) h
      exact (h0 this).elim
  obtain ⟨l, hl⟩ := Option.ne_none_iff_exists'.1 hlay
  obtain ⟨hx1, hx2, hx3, hx4⟩ : x.op = op ∧ x.a = a ∧ x.b = b ∧ x.arms = arms := by
    have e := hx
    unfold In.dat at e
    simp only [Prod.mk.injEq] at e
    exact e
  have hgood := goodF_lay (bs.getD p 0)
  have hlen := lay_length (op := bs.getD p 0)
  rw [hl] at hgood hlen
  simp only [Option.getD_some] at hgood hlen
  have hby : Byte (bs.getD p 0) := by
    rw [List.getD_eq_getElem?_getD, List.getElem?_eq_getElem hp]
    exact hb _ (List.getElem_mem _)
  have hseg0 : Seg bs p [bs.getD p 0] := by
    refine ⟨by simp; omega, ?_⟩
    rw [List.getD_eq_getElem?_getD, List.getElem?_eq_getElem hp]
    show (bs.drop p).take 1 = [bs[p]]
    rw [List.drop_eq_getElem_cons hp]
    rfl
  unfold decX at hX
  rw [hl, Option.getD_some] at hX
  by_cases h49 : bs.getD p 0 = 49
  · rw [if_pos h49] at hX
    have hl1 : l = [fWid] := lay49 hl h49
    subst hl1
    unfold decSw at hX
    obtain ⟨r, hr⟩ : ∃ r, r = rdFields bs [fWid] (p + 1, 0) := ⟨_, rfl⟩
    rw [← hr] at hX
    simp only [Prod.mk.injEq] at hX
    obtain ⟨⟨q1, q2, q3, q4⟩, q5⟩ := hX
    have t0 := congrArg Prod.snd q5
    simp only at t0
    obtain ⟨u0, u1, u2, u3⟩ := rd_seg hb (by decide) t0
    have v0 := rdArms_stick u0
    obtain ⟨w0, w1, w2, w3⟩ := rd_seg hb (by decide) v0
    have hop : x.op = 49 := by rw [hx1, ← q1]
    have ha : x.a = r.1 := by rw [hx2, ← q2]
    obtain ⟨y1, y2, y3, y4, y5, y6, y7⟩ := fields_seg (x := x) (s := (p + 1, 0)) hb hgood hlen (by simp only; omega) (by rw [← hr]; exact w0) (by rw [← hr]; exact ha) (fun h => by simp at h)
    rw [← hr] at y3
    have hle1 : r.2.2.1 ≤ bs.length := by rw [y3]; exact y2.1
    have hle2 : (rdS bs fIx r.2.2).2.1 ≤ bs.length := rdS_le' hle1
    obtain ⟨new, e1, e2, e3, e4, e5, e6⟩ := arms_seg hb _ _ _ hle2 u0
    rw [List.nil_append] at e1
    have harms : x.arms = new := by rw [hx4, ← q4, e1]
    have hb2 := hx3.trans q3.symm
    have hcnt := of_decide_eq_true w1
    have hcnt0 : 0 ≤ (rdS bs fIx r.2.2).1 ∧ (rdS bs fIx r.2.2).1 ≤ 65535 := hcnt
    have hn : ((new.length : Nat) : Int) = (rdS bs fIx r.2.2).1 := by rw [e2]; omega
    have hlv := of_decide_eq_true u1
    have hS : isS x = true := by
      unfold isS
      rw [hop, if_pos rfl, show lay 49 = some [fWid] from rfl, Option.getD_some, y1, harms, ha, e3, hb2]
      simp only [Option.isSome_some, Bool.true_and, Bool.and_true, Bool.and_eq_true, decide_eq_true_eq]
      exact ⟨by omega, hlv⟩
    have hE : encB x = [49] ++ fldB x 0 [fWid] ++ (fixS (rdS bs fIx r.2.2).1 2 ++ armsB new ++ fixS x.b 4) := by
      unfold encB
      rw [hop, if_pos rfl, show lay 49 = some [fWid] from rfl, Option.getD_some, harms, hn]
      simp
    have hsg : Seg bs p (encB x) := by
      rw [hE]
      rw [h49] at hseg0
      refine (hseg0.append y2).append (Seg.append (Seg.append ?_ ?_) ?_)
      · have : p + ([49] ++ fldB x 0 [fWid]).length = r.2.2.1 := by rw [y3, List.length_append]; simp; omega
        rw [this]; exact w3
      · have : p + ([49] ++ fldB x 0 [fWid]).length + (fixS (rdS bs fIx r.2.2).1 2).length = (rdS bs fIx r.2.2).2.1 := by
          rw [w2, y3, List.length_append, fixS_length]; show _ = _ + 2; simp; omega
        rw [this]; exact e4
      · have : p + ([49] ++ fldB x 0 [fWid]).length + (fixS (rdS bs fIx r.2.2).1 2 ++ armsB new).length = (rdArms bs (IntKind.u8.wrap r.1) (rdS bs fIx r.2.2).1.toNat (rdS bs fIx r.2.2).2 []).2.1 := by
          rw [e5, w2, y3, List.length_append, List.length_append, fixS_length]; show _ = _ + 2 + _; simp; omega
        rw [this, hb2]; exact u3
    refine ⟨⟨by rw [hop]; decide, y4, by rw [hb2]; exact may_i64 goodF_leap u1, by rw [harms]; exact e6, by rw [harms]; omega⟩, hS, hsg, ?_⟩
    have t1 := congrArg Prod.fst q5
    simp only at t1
    rw [← t1, u2, e5, w2, y3, hE]
    simp only [List.length_append, fixS_length, List.length_cons, List.length_nil]
    show _ + 2 + _ + 4 = _
    omega
  · rw [if_neg h49] at hX
    simp only [Prod.mk.injEq] at hX
    obtain ⟨⟨q1, q2, q3, q4⟩, q5⟩ := hX
    have t0 := congrArg Prod.snd q5
    simp only at t0
    have hop : x.op = bs.getD p 0 := by rw [hx1, ← q1]
    obtain ⟨y1, y2, y3, y4, y5, y6, y7⟩ := fields_seg (x := x) (s := (p + 1, 0)) hb hgood hlen (by simp only; omega) t0 (by rw [hx2, ← q2]) (fun _ => by rw [hx3, ← q3])
    have harms : x.arms = [] := by rw [hx4, ← q4]
    have hbz : l.length < 2 → x.b = 0 := fun h => by rw [hx3, ← q3]; exact y6 h
    have hop49 : x.op ≠ 49 := by rw [hop]; exact h49
    have hlx : lay x.op = some l := by rw [hop]; exact hl
    have hS : isS x = true := by
      unfold isS
      rw [if_neg hop49, hlx, Option.getD_some, y1, harms]
      simp only [Option.isSome_some, Bool.true_and, List.length_nil, decide_true, Bool.and_eq_true, Bool.or_eq_true, decide_eq_true_eq]
      refine ⟨?_, ?_⟩
      · by_cases h2 : 2 ≤ l.length
        · exact .inl h2
        · exact .inr (hbz (by omega))
      · by_cases h2 : 1 ≤ l.length
        · exact .inl h2
        · exact .inr (y7 (by omega))
    have hE : encB x = [bs.getD p 0] ++ fldB x 0 l := by
      unfold encB
      rw [if_neg hop49, hlx, Option.getD_some, hop]
      simp
    refine ⟨⟨by rw [hop]; exact hby, y4, ?_, (by rw [harms]; intro y hy; cases hy), by rw [harms]; decide⟩, hS, by rw [hE]; exact hseg0.append y2, ?_⟩
    · by_cases h2 : 2 ≤ l.length
      · exact y5 h2
      · rw [hbz (by omega)]; exact ⟨by decide, by decide⟩
    · have t1 := congrArg Prod.fst q5
      simp only at t1
      rw [← t1, y3, hE]
      simp
      omega
end
theorem decT_is {bs : List Int} (hb : ∀ b ∈ bs, Byte b) {n : Int} (h : (decT bs n).2.2 = 0) {x : In} (hx : x.dat = (decT bs n).1) :
    0 ≤ n ∧ n.toNat < bs.length ∧ x.Ok ∧ isS x = true ∧ Seg bs n.toNat (encB x) ∧ (decT bs n).2.1 = n.toNat + (encB x).length := by
  by_cases hn : n < 0 ∨ n ≥ bs.length
  · unfold decT at h
    rw [if_pos hn] at h
    simp at h
  · have hd : decT bs n = decS bs n.toNat := by unfold decT; rw [if_neg hn]
    rw [hd] at h hx ⊢
    obtain ⟨d, next, e, hde⟩ : ∃ d next e, decS bs n.toNat = (d, (next, e)) := ⟨_, _, _, rfl⟩
    obtain ⟨op, a, b, arms⟩ := d
    rw [hde] at h hx ⊢
    simp only at h hx ⊢
    subst h
    obtain ⟨a1, a2, a3, a4⟩ := dec_is hb (by omega) hde hx
    exact ⟨by omega, by omega, a1, a2, a3, a4⟩
/-- All instructions and where each begins, or the error. -/
def allT (bs : List Int) : Nat → Nat → Except Int (List (Dat × Nat))
  | 0, _ => .ok []
  | n + 1, p => if bs.length ≤ p then .ok [] else if (decT bs p).2.2 = 0 then (match allT bs n (decT bs p).2.1 with | .ok l => .ok (((decT bs p).1, p) :: l) | .error e => .error e) else .error (decT bs p).2.2
def prep (done : List (Dat × Nat)) : Except Int (List (Dat × Nat)) → Except Int (List (Dat × Nat))
  | .ok l => .ok (done ++ l)
  | .error e => .error e
def layR (op : Int) : Option (List Fld) :=
  if op = 1 then some [⟨1, -128, 127⟩] else if op = 2 then some [⟨4, -2147483648, 2147483647⟩] else if op = 3 then some [⟨8, -9223372036854775808, 9223372036854775807⟩]
  else if (op == 6 || op == 7 || op == 8 || op == 50 || op == 36 || decide (39 ≤ op ∧ op ≤ 45)) = true then some [fIx] else if (op == 37 || op == 38) = true then some [fIx, fIx]
  else if (op == 23 || op == 24) = true then some [⟨1, 1, 5⟩] else if decide (11 ≤ op ∧ op ≤ 28) = true then some [fWid] else if op = 29 then some [fWid, fWid]
  else if (op == 46 || op == 47 || op == 48) = true then some [fLeap] else if op = 52 then some [⟨1, 0, 255⟩] else if op = 49 then some [fWid] else if decide (1 ≤ op ∧ op ≤ 52) = true then some [] else none
theorem layR_is (op : Int) : layR op = lay op := by
  unfold layR lay
  by_cases h1 : op = 1
  · rw [if_pos h1, if_pos h1]; rfl
  rw [if_neg h1, if_neg h1]
  by_cases h2 : op = 2
  · rw [if_pos h2, if_pos h2]; rfl
  rw [if_neg h2, if_neg h2]
  by_cases h3 : op = 3
  · rw [if_pos h3, if_pos h3]; rfl
  rw [if_neg h3, if_neg h3]
  unfold lay0
  have e : (op == 6 || op == 7 || op == 8 || op == 50 || op == 36 || decide (39 ≤ op ∧ op ≤ 45)) = (op == 6 || op == 7 || op == 8 || op == 50 || op == 36 || op == 39 || op == 40 || op == 41 || op == 42 || op == 43 || op == 44 || op == 45) := by
    rw [Bool.eq_iff_iff]
    simp only [Bool.or_eq_true, beq_iff_eq, decide_eq_true_eq]
    omega
  rw [e]
  by_cases h4 : (op == 6 || op == 7 || op == 8 || op == 50 || op == 36 || op == 39 || op == 40 || op == 41 || op == 42 || op == 43 || op == 44 || op == 45) = true
  · rw [if_pos h4, if_pos h4]
  rw [if_neg h4, if_neg h4]
  unfold lay1
  by_cases h5 : (op == 37 || op == 38) = true
  · rw [if_pos h5, if_pos h5]
  rw [if_neg h5, if_neg h5]
  unfold lay2
  by_cases h6 : (op == 23 || op == 24) = true
  · rw [if_pos h6, if_pos h6]
  rw [if_neg h6, if_neg h6]
  unfold lay3
  by_cases h7 : 11 ≤ op ∧ op ≤ 28
  · have g1 : ¬ (op == 46 || op == 47 || op == 48) = true := by simp only [Bool.or_eq_true, beq_iff_eq]; omega
    rw [if_pos (by simpa using h7), if_neg (show ¬ op = 29 by omega), if_neg g1, if_neg (show ¬ op = 52 by omega), if_neg (show ¬ op = 49 by omega), if_pos h7]
  · have g1 : ¬ decide (11 ≤ op ∧ op ≤ 28) = true := by simpa using h7
    rw [if_neg g1]
    by_cases h8 : op = 29
    · rw [if_pos h8, if_pos h8]
    rw [if_neg h8, if_neg h8]
    by_cases h9 : (op == 46 || op == 47 || op == 48) = true
    · rw [if_pos h9, if_pos h9]
    rw [if_neg h9, if_neg h9]
    by_cases h10 : op = 52
    · rw [if_pos h10, if_pos h10]
    rw [if_neg h10, if_neg h10]
    by_cases h11 : op = 49
    · rw [if_pos h11, if_pos h11]
    rw [if_neg h11, if_neg h11, if_neg h7]
    by_cases h12 : 1 ≤ op ∧ op ≤ 52
    · rw [if_pos (by simpa using h12), if_pos h12]
    · rw [if_neg (by simpa using h12), if_neg h12]
end Go.Op
end

section
namespace Go.Am
set_option linter.unusedVariables false
set_option linter.unusedSimpArgs false
mutual
/-- What is told of an object, told by what it holds. -/
def frz (k : Nat) (o : DObj) : D → D
  | .ptr j i => if j = k then (match o.rows with
    | [cs] => .elt cs i
    | _ => .any) else .ptr j i
  | .rel j r i sz => if j = k then (match o.rows[r]? with
    | some row => if o.sz = sz then .elt row i else .any
    | none => .any) else .rel j r i sz
  | .raw j i len cap ex sz => if j = k then (if o.sz = sz ∧ i + len ≤ o.rows.length ∧ len ≤ cap then .lst ((o.rows.drop i).take len) sz else .any) else .raw j i len cap ex sz
  | .fn f a b => .fn f (frzL k o a) (frzL k o b)
  | .ifc t v => .ifc t (frz k o v)
  | .agg cs => .agg (frzL k o cs)
  | .tup ds => .tup (frzL k o ds)
  | d => d
def frzL (k : Nat) (o : DObj) : List D → List D
  | [] => []
  | d :: ds => frz k o d :: frzL k o ds
end
section
variable {P : Program} {E : Env} {w0 : World} {x : Bool} {R : Fz} {S : DSt} {H : AHeap}
mutual
theorem rp_frz (hC : Conf E R S H) {k : Nat} {o : DObj} (hk : S k = some o) : ∀ {d : D} {v : AV}, Rp E R d v → Rp E (fun j => if j = k then some o.acs else R j) (frz k o d) v
  | .any, v, _ => by simp only [frz, Rp]
  | .bool b, v, h => by simp only [frz, Rp] at *; exact h
  | .int j n, v, h => by simp only [frz, Rp] at *; exact h
  | .str s, v, h => by simp only [frz, Rp] at *; exact h
  | .nilPtr, v, h => by simp only [frz, Rp] at *; exact h
  | .nilSlc, v, h => by simp only [frz, Rp] at *; exact h
  | .nilMap, v, h => by simp only [frz, Rp] at *; exact h
  | .nilFn, v, h => by simp only [frz, Rp] at *; exact h
  | .nilIfc, v, h => by simp only [frz, Rp] at *; exact h
  | .elt row i, v, h => by
    have := Rp.le (hC.freeze hk).2 _ _ h
    simp only [frz]; exact this
  | .lst rows sz, v, h => by
    have := Rp.le (hC.freeze hk).2 _ _ h
    simp only [frz]; exact this
  | .ext rows more sz, v, h => by
    have := Rp.le (hC.freeze hk).2 _ _ h
    simp only [frz]; exact this
  | .ptr j i, v, h => by
    simp only [frz]
    split
    · rename_i e
      subst e
      obtain ⟨h1, ⟨pre, h2⟩, h3, h4, h5⟩ := hC.own j o hk
      split
      · rename_i cs hcs
        simp only [Rp] at h ⊢
        subst h
        rw [hcs, List.flatten_singleton] at h5
        have e : o.acs.take cs.length = o.acs := List.take_of_length_le (by rw [h5.length]; exact Nat.le_refl _)
        refine ⟨.new j, 0, o.acs, by rw [Nat.zero_add], ?_, ?_, ?_⟩
        · show (if j = j then some o.acs else R j) = some o.acs
          rw [if_pos rfl]
        · rw [List.drop_zero, e]; exact RpL.le (hC.freeze hk).2 _ _ h5
        · rw [List.drop_zero, e]; exact h3
      · exact rp_any
    · simp only [Rp] at *; exact h
  | .rel j r i sz, v, h => by
    simp only [frz]
    split
    · rename_i e
      subst e
      obtain ⟨h1, ⟨pre, h2⟩, h3, h4, h5⟩ := hC.own j o hk
      split
      · rename_i row hrow
        split
        · rename_i hsz
          simp only [Rp] at h ⊢
          subst h
          have hl : row.length = sz := by rw [h4 row (List.mem_of_getElem? hrow), hsz]
          refine ⟨.new j, r * sz, o.acs, rfl, ?_, ?_, all_take (all_drop h3 _) _⟩
          · show (if j = j then some o.acs else R j) = some o.acs
            rw [if_pos rfl]
          · have := (h5.drop (r * sz)).take row.length
            rw [← hsz] at this hl ⊢
            rw [hl, flat_row h4 hrow] at this
            rw [hl]
            exact RpL.le (hC.freeze hk).2 _ _ this
        · exact rp_any
      · exact rp_any
    · simp only [Rp] at *; exact h
  | .raw j i len cap ex sz, v, h => by
    simp only [frz]
    split
    · rename_i e
      subst e
      split
      · rename_i hc
        exact rp_frozen hC hk h hc.1 hc.2.1 hc.2.2
      · exact rp_any
    · simp only [Rp] at *; exact h
  | .fn f a b, v, h => by
    simp only [frz, Rp] at *
    obtain ⟨a', b', e1, e2, e3⟩ := h
    exact ⟨a', b', e1, rpL_frz hC hk e2, rpL_frz hC hk e3⟩
  | .ifc t d, v, h => by
    simp only [frz, Rp] at *
    obtain ⟨v', e1, e2⟩ := h
    exact ⟨v', e1, rp_frz hC hk e2⟩
  | .agg cs, v, h => by
    simp only [frz, Rp] at *
    obtain ⟨vs, e1, e2, e3⟩ := h
    exact ⟨vs, e1, rpL_frz hC hk e2, e3⟩
  | .tup ds, v, h => by
    simp only [frz, Rp] at *
    obtain ⟨vs, e1, e2⟩ := h
    exact ⟨vs, e1, rpL_frz hC hk e2⟩
theorem rpL_frz (hC : Conf E R S H) {k : Nat} {o : DObj} (hk : S k = some o) : ∀ {ds : List D} {vs : List AV}, RpL E R ds vs → RpL E (fun j => if j = k then some o.acs else R j) (frzL k o ds) vs
  | [], vs, h => by simp only [frzL, RpL] at *; exact h
  | d :: ds, vs, h => by
    simp only [frzL, RpL] at *
    obtain ⟨v, ws, e1, e2, e3⟩ := h
    exact ⟨v, ws, e1, rp_frz hC hk e2, rpL_frz hC hk e3⟩
end
theorem FinD.frz {Q : D → DSt → Prop} {d : D} {k : Nat} {o : DObj} (hk : S k = Option.none) (h : FinD E Q (Am.frz k o d) S) : FinD E Q d (S.set k o) := fun R H v hC hd => by
  obtain ⟨h1, h2⟩ := hC.freeze (DSt.set_same S k o)
  rw [DSt.erase_set _ _ _ hk] at h1
  obtain ⟨R', S', d', a, b, c, e⟩ := h _ H v h1 (rp_frz hC (DSt.set_same S k o) hd)
  exact ⟨R', S', d', Fz.le_trans h2 a, b, c, e⟩
/-- What is told less of. -/
def Wk (d d' : D) : Prop := ∀ (E : Env) (R : Fz) (v : AV), Rp E R d v → Rp E R d' v
def WkL : List D → List D → Prop
  | [], [] => True
  | d :: ds, e :: es => Wk d e ∧ WkL ds es
  | _, _ => False
theorem Wk.refl (d : D) : Wk d d := fun _ _ _ h => h
theorem Wk.any (d : D) : Wk d .any := fun _ _ _ _ => rp_any
theorem Wk.nil (sz : Nat) : Wk .nilSlc (.lst [] sz) := fun E R v h => by simp only [Rp] at h ⊢; exact .inl ⟨by trivial, h⟩
theorem Wk.ext (rows more : List (List D)) (sz : Nat) : Wk (.ext rows more sz) (.lst rows sz) := fun E R v h => by
  simp only [Rp] at h ⊢
  obtain ⟨o, j, cap, ex, z, all, e1, e2, e3, e4, e5, e6, e7, e8, e9⟩ := h
  refine .inr ⟨o, j, cap, ex, z, e1, e2, by omega, e4, ?_⟩
  rcases e6 with e6 | ⟨e6, _⟩
  rotate_left
  · exact .inl e6
  refine .inr ⟨all, e6, e7, ?_⟩
  have := all_take e9 (rows.length * sz)
  rw [List.take_take, Nat.min_eq_left (Nat.mul_le_mul_right _ (by omega))] at this
  exact this
/-- A list of nothing: no slice, or one that is there. -/
theorem DF.split {F : FW} {f : FuncId} {sz : Nat} {pre post : List D} {S : DSt} {Q : D → DSt → Prop} (h1 : DF E F f (pre ++ .nilSlc :: post) S Q) (h2 : DF E F f (pre ++ .ext [] [] sz :: post) S Q) : DF E F f (pre ++ .lst [] sz :: post) S Q := fun R H avs hF hC ha => by
  obtain ⟨v1, v2, rfl, g1, g2⟩ := rpL_split ha
  simp only [RpL] at g2
  obtain ⟨w, ws, rfl, g3, g4⟩ := g2
  simp only [Rp] at g3
  rcases g3 with ⟨_, rfl⟩ | ⟨o, j, cap, ex, z, rfl, f1, f2, _, _⟩
  · exact h1 R H _ hF hC (g1.append (rpL_cons (by simp only [Rp]) g4))
  · refine h2 R H _ hF hC (g1.append (rpL_cons ?_ g4))
    simp only [Rp]
    exact ⟨o, j, cap, ex, z, [], rfl, f1, by simp, by simp, by simp, by simp, by simp [RpLL], by simp [RpLL], by simp⟩
theorem WkL.refl : ∀ ds : List D, WkL ds ds
  | [] => trivial
  | d :: ds => ⟨Wk.refl d, WkL.refl ds⟩
theorem WkL.ok : ∀ {ds es : List D}, WkL ds es → ∀ {E : Env} {R : Fz} {vs : List AV}, RpL E R ds vs → RpL E R es vs
  | [], [], _, E, R, vs, h => h
  | d :: ds, e :: es, w, E, R, vs, h => by
    simp only [RpL] at h ⊢
    obtain ⟨v, ws, e1, e2, e3⟩ := h
    exact ⟨v, ws, e1, w.1 _ _ _ e2, WkL.ok w.2 e3⟩
  | [], _ :: _, w, _, _, _, _ => w.elim
  | _ :: _, [], w, _, _, _, _ => w.elim
theorem Wk.agg {ds es : List D} (w : WkL ds es) : Wk (.agg ds) (.agg es) := fun E R v h => by
  simp only [Rp] at h ⊢
  obtain ⟨vs, e1, e2, e3⟩ := h
  exact ⟨vs, e1, w.ok e2, e3⟩
theorem Wk.tup {ds es : List D} (w : WkL ds es) : Wk (.tup ds) (.tup es) := fun E R v h => by
  simp only [Rp] at h ⊢
  obtain ⟨vs, e1, e2⟩ := h
  exact ⟨vs, e1, w.ok e2⟩
theorem FinD.weak {Q : D → DSt → Prop} {d d' : D} (w : Wk d d') (h : FinD E Q d' S) : FinD E Q d S := fun R H v hC hd => h R H v hC (w _ _ _ hd)
/-- A call with arguments told less of. -/
theorem DF.weak {F : FW} {f : FuncId} {ds es : List D} {Q : D → DSt → Prop} (w : WkL ds es) (h : DF E F f es S Q) : DF E F f ds S Q := fun R H avs hF hC ha => h R H avs hF hC (w.ok ha)
/-- What is new is left away. -/
theorem FinD.drop {Q : D → DSt → Prop} {d : D} {k : Nat} {o : DObj} (hk : S k = Option.none) (h : FinD E Q d S) : FinD E Q d (S.set k o) := FinD.less (DSt.le_new hk) h
theorem FinD.pure {d : D} : FinD E (fun d' S' => d' = d ∧ S' = S) d S := FinD.here ⟨rfl, rfl⟩
theorem frz_raw {k i len cap sz : Nat} {ex : Bool} {rows : List (List D)} {acs : List AV} (h : i + len ≤ rows.length) (hc : len ≤ cap) : Am.frz k ⟨sz, rows, acs⟩ (.raw k i len cap ex sz) = .lst ((rows.drop i).take len) sz := by
  simp only [Am.frz, if_true]; rw [if_pos ⟨by trivial, h, hc⟩]
end
end Go.Am
end

section
open Go.Proofs Go Go.Am Go.Op
namespace Go.Proofs.Ytchnpgddpaonhaa.d
set_option linter.unusedVariables false
set_option linter.unusedSimpArgs false
set_option maxRecDepth 100000
section
variable {E : Env} {w0 : World}
theorem word_Bits_ok {w : Int} : Pure Try.prog E w0 f_word_Bits [.int .u8 w] (.int .i64 (bitsS w)) := fun x S => by
  refine V_word_Bits_ok ?_
  unfold V_word_Bits bitsS
  simp only [biEq, oD, cdB, beq_iff_eq, beq_eq_false_iff_ne, ne_eq]
  refine ⟨fun h => ?_, fun h1 => ⟨fun h => ?_, fun h2 => ⟨fun h => ?_, fun h3 => ?_⟩⟩⟩ <;> simp only [*, if_true, if_false] <;> exact FinD.pure
theorem word_Wrap_ok {w n : Int} : Pure Try.prog E w0 f_word_Wrap [.int .u8 w, .int .i64 n] (.int .i64 (wrapS w n)) := fun x S => by
  refine V_word_Wrap_ok ?_
  unfold V_word_Wrap wrapS
  simp only [biEq, oD, cdB, beq_iff_eq, beq_eq_false_iff_ne, ne_eq, cvI]
  refine ⟨fun h => ?_, fun h1 => ⟨fun h => ?_, fun h2 => ⟨fun h => ?_, fun h3 => ?_⟩⟩⟩ <;> simp only [*, if_true, if_false] <;> exact FinD.pure
theorem i8_wrap (n : Int) : IntKind.i8.wrap n = if 128 ≤ n % 256 then n % 256 - 256 else n % 256 := by
  simp only [IntKind.wrap, IntKind.bits, IntKind.signed]; simp
theorem i32_wrap (n : Int) : IntKind.i32.wrap n = if 2147483648 ≤ n % 4294967296 then n % 4294967296 - 4294967296 else n % 4294967296 := by
  simp only [IntKind.wrap, IntKind.bits, IntKind.signed]; simp
theorem fits_iff {w n : Int} (hn : I64 n) : (0 < bitsS w ∧ wrapS w n = n) ↔ (fitLo w ≤ n ∧ n ≤ fitHi w) := by
  obtain ⟨h0, h1⟩ := hn
  unfold bitsS wrapS fitLo fitHi
  by_cases w1 : w = 1
  · simp only [if_pos w1]
    rw [i8_wrap, wrap_i64 (by split <;> omega) (by split <;> omega)]
    split <;> constructor <;> omega
  simp only [if_neg w1]
  by_cases w2 : w = 2
  · simp only [if_pos w2]
    rw [i32_wrap, wrap_i64 (by split <;> omega) (by split <;> omega)]
    split <;> constructor <;> omega
  simp only [if_neg w2]
  by_cases w3 : w = 3
  · simp only [if_pos w3]; exact ⟨fun _ => ⟨h0, h1⟩, fun _ => ⟨by decide, by trivial⟩⟩
  simp only [if_neg w3]; constructor <;> omega
theorem word_Fits_ok {w n : Int} (hn : I64 n) : Pure Try.prog E w0 f_word_Fits [.int .u8 w, .int .i64 n] (.bool (decide (fitLo w ≤ n ∧ n ≤ fitHi w))) := fun x S => by
  refine V_word_Fits_ok ?_
  unfold V_word_Fits
  refine word_Bits_ok.use ?_
  have hi := fits_iff (w := w) hn
  by_cases hb : bitsS w > 0
  · simp [hb]
    refine word_Wrap_ok.use ?_
    have e : (wrapS w n == n) = decide (fitLo w ≤ n ∧ n ≤ fitHi w) := by
      by_cases hw : wrapS w n = n
      · rw [decide_eq_true (hi.1 ⟨hb, hw⟩), hw]; simp
      · rw [decide_eq_false (fun h => hw (hi.2 h).2)]; simpa using hw
    simp [e]
    exact FinD.pure
  · have e : decide (fitLo w ≤ n ∧ n ≤ fitHi w) = false := decide_eq_false fun h => hb (hi.2 h).1
    rw [e]
    simp [hb]
    exact FinD.pure
/-- A function that tells whether a number is from one to another. -/
def betD (lo hi : Int) : D := .fn (.func f_ops_between_1) [] [.elt [.int .i64 lo] 0, .elt [.int .i64 hi] 0]
def fitD (w : Int) : D := .fn (.func f_ops_fits_1) [] [.elt [.int .u8 w] 0]
theorem ops_between_ok {lo hi : Int} : Pure Try.prog E w0 f_ops_between [.int .i64 lo, .int .i64 hi] (betD lo hi) := fun x S => by
  refine V_ops_between_ok ?_
  unfold V_ops_between
  simp only [clI, oD]
  intro k acs hk k2 acs2 hk2
  obtain ⟨hne, hk20⟩ := DSt.fresh hk2
  refine FinD.frz hk2 (FinD.frz hk ?_)
  simp only [Am.frz, frzL, if_true, if_neg hne, if_neg (Ne.symm hne)]
  exact FinD.pure
theorem ops_fits_ok {w : Int} : Pure Try.prog E w0 f_ops_fits [.int .u8 w] (fitD w) := fun x S => by
  refine V_ops_fits_ok ?_
  unfold V_ops_fits
  simp only [clI, oD]
  intro k acs hk
  refine FinD.frz hk ?_
  simp only [Am.frz, frzL, if_true]
  exact FinD.pure
theorem ops_between_1_ok {lo hi n : Int} : Pure Try.prog E w0 f_ops_between_1 [.int .i64 n, .elt [.int .i64 lo] 0, .elt [.int .i64 hi] 0] (.bool (decide (lo ≤ n ∧ n ≤ hi))) := fun x S => by
  refine V_ops_between_1_ok ?_
  unfold V_ops_between_1
  by_cases h : lo ≤ n <;> simp [h] <;> exact FinD.pure
theorem ops_fits_1_ok {w n : Int} (hn : I64 n) : Pure Try.prog E w0 f_ops_fits_1 [.int .i64 n, .elt [.int .u8 w] 0] (.bool (decide (fitLo w ≤ n ∧ n ≤ fitHi w))) := fun x S => by
  refine V_ops_fits_1_ok ?_
  unfold V_ops_fits_1
  simp only [lsE, List.getElem?_cons_zero, oD]
  exact (word_Fits_ok hn).use FinD.pure
end
end Go.Proofs.Ytchnpgddpaonhaa.d
end

section
open Go.Proofs Go Go.Am Go.Op
namespace Go.Proofs.Ytchnpgddpaonhaa.d
set_option linter.unusedVariables false
set_option linter.unusedSimpArgs false
set_option maxRecDepth 100000
/-- Bytes. -/
def bD (bs : List Int) : D := .lst (ones (bs.map (D.int .u8))) 1
theorem bD_at {bs : List Int} {i : Nat} {b : Int} (h : bs[i]? = some b) : idxSl 1 (bD bs) (.int .i64 (i : Int)) = some (.elt [.int .u8 b] 0) :=
  idxL (ones_get (by rw [List.getElem?_map, h]; rfl))
@[simp] theorem bD_len (bs : List Int) : lenSl (bD bs) = some (.int .i64 bs.length) := by simp [bD]
@[simp] theorem bD_rows (S : DSt) (bs : List Int) : rowsS S 1 (bD bs) = some (ones (bs.map (D.int .u8))) := by simp [bD, rowsS, rowsOf]
theorem ones_append (a b : List D) : ones (a ++ b) = ones a ++ ones b := by simp [ones]
theorem ones_set (l : List D) (i : Nat) (d : D) : (ones l).set i [d] = ones (l.set i d) := by simp [ones, List.map_set]
theorem u64_nat {a : Nat} (h : a < 2 ^ 64) : IntKind.u64.wrap (a : Int) = a := by rw [u64_wrap]; omega
theorem toNat_ofInt {w a : Nat} : (BitVec.ofInt w (a : Int)).toNat = a % 2 ^ w := by simp
theorem or_nat {a b : Nat} (ha : a < 2 ^ 64) (hb : b < 2 ^ 64) : binI .or (.int .u64 (a : Int)) (.int .u64 (b : Int)) = some (.int .u64 ((a ||| b : Nat) : Int)) := by
  rw [biOr]
  show some (D.int .u64 (IntKind.u64.wrap ((BitVec.ofInt 64 (a : Int) ||| BitVec.ofInt 64 (b : Int)).toNat : Int))) = _
  rw [BitVec.toNat_or, toNat_ofInt, toNat_ofInt, Nat.mod_eq_of_lt ha, Nat.mod_eq_of_lt hb, u64_nat (Nat.or_lt_two_pow ha hb)]
theorem shl_nat {a i : Nat} (hi : i ≤ 64) (h : a * 2 ^ i < 2 ^ 64) : binI .shl (.int .u64 (a : Int)) (.int .i64 (i : Int)) = some (.int .u64 ((a * 2 ^ i : Nat) : Int)) := by
  rw [biShl _ _ _ _ (by omega), Int.toNat_natCast, show IntKind.u64.bits = 64 from rfl, Nat.min_eq_left hi]
  have e : (a : Int) * 2 ^ i = ((a * 2 ^ i : Nat) : Int) := by simp
  rw [e, u64_nat h]
theorem or_add {a b i : Nat} (h : a < 2 ^ i) : a ||| (b * 2 ^ i) = a + b * 2 ^ i := by
  have := Nat.two_pow_add_eq_or_of_lt h b
  rw [Nat.or_comm, Nat.mul_comm b, ← this, Nat.add_comm]
theorem u64_cast (n : Int) : IntKind.u64.wrap n = (((n % 18446744073709551616).toNat : Nat) : Int) := by rw [u64_wrap]; omega
section
variable {E : Env} {w0 : World}
theorem wire_Fixed_ok {u : Int} {s : Nat} (h1 : 1 ≤ s) (h8 : s ≤ 8) : Pure Try.prog E w0 f_wire_Fixed [.int .u64 u, .int .i64 (s : Int)] (bD (fixS u s)) := fun x S0 => by
  refine V_wire_Fixed_ok ?_
  unfold V_wire_Fixed
  have c1 : decide ((s : Int) < 1) = false := decide_eq_false (by omega)
  have c2 : decide ((s : Int) > 8) = false := decide_eq_false (by omega)
  simp only [biLt, biGt, oD, c1, c2, wdB, beq_self_eq_true, vdT, pdB, Bool.false_eq_true, if_false, cdF]
  refine makeL (by omega) fun k acs hk => ?_
  refine loop_wire_Fixed_0 (I := fun n x0 x5 x15 x16 S => ∃ (acs : List AV) (i : Nat), i + n = s ∧ x0 = .int .u64 u ∧ x5 = .raw k 0 s s true 1 ∧ x15 = .int .i64 (s : Int) ∧ x16 = .int .i64 (i : Int) ∧
      S = S0.set k ⟨1, ones ((fixS u i ++ List.replicate n 0).map (D.int .u8)), acs⟩) ?_ (n := s) ⟨acs, 0, by omega, rfl, rfl, rfl, rfl, by simp [fixS, ones]⟩
  rintro n _ _ _ _ _ ⟨acs, i, hi, rfl, rfl, rfl, rfl, rfl⟩
  unfold B_wire_Fixed_0
  rw [biLt, oD, cdI]
  refine ⟨fun hlt => ?_, fun hge => ?_⟩
  · obtain ⟨n, rfl⟩ : ∃ m, n = m + 1 := ⟨n - 1, by omega⟩
    rw [biMul, oD, wrap_i64 (by omega) (by omega), biShr _ _ _ _ (by omega), oD, cvI, oD, idxR (by omega), oD, Nat.zero_add]
    have hb : IntKind.u8.wrap (u.fdiv (2 ^ (min (8 * (i : Int)).toNat IntKind.u64.bits))) = byteAt u i := by
      rw [u8_wrap, show (8 * (i : Int)).toNat = 8 * i by omega, show IntKind.u64.bits = 64 from rfl, Nat.min_eq_left (by omega), Int.fdiv_eq_ediv_of_nonneg _ (Int.le_of_lt (Int.pow_pos (by decide)))]
      rfl
    rw [hb]
    have hf : fixS u (i + 1) = fixS u i ++ [byteAt u i] := by simp [fixS, List.range_succ]
    have hl := fixS_length u i
    refine stR (DSt.set_same _ _ _) (ones_get (d := .int .u8 0) ?_) (clI _ _) ⟨rfl, by omega, by simp⟩ fun acs' => ?_
    · rw [List.getElem?_map, List.getElem?_append, if_neg (by omega), hl, Nat.sub_self]
      rfl
    · rw [biAdd, oD, wrap_i64 (by omega) (by omega)]
      refine ⟨n, by omega, acs', i + 1, by omega, rfl, rfl, rfl, rfl, ?_⟩
      rw [DSt.set_set]
      congr 2
      show (ones _).set i [.int .u8 (byteAt u i)] = _
      rw [ones_set, ← List.map_set, hf, List.append_assoc]
      congr 2
      rw [List.set_append, if_neg (by omega), hl, Nat.sub_self]
      rfl
  · obtain rfl : i = s := by omega
    obtain rfl : n = 0 := by omega
    refine FinD.frz hk ?_
    rw [frz_raw (by simp [fixS_length]) (Nat.le_refl _)]
    have : ((ones ((fixS u i ++ List.replicate 0 0).map (D.int .u8))).drop 0).take i = ones ((fixS u i).map (D.int .u8)) := by
      simp only [List.replicate_zero, List.append_nil, List.drop_zero]
      exact List.take_of_length_le (by simp [fixS_length])
    rw [this]
    exact FinD.pure
theorem wire_Wide_ok {bs : List Int} (hb : ∀ b ∈ bs, Byte b) (hl : bs.length < 2 ^ 60) {p s : Nat} (hp : p ≤ bs.length) (h1 : 1 ≤ s) (h8 : s ≤ 8) : Pure Try.prog E w0 f_wire_Wide [bD bs, .int .i64 (p : Int), .int .i64 (s : Int)]
    (if bs.length < p + s then .tup [.int .u64 0, .int .i64 0, .int .i64 10] else .tup [.int .u64 (leN ((bs.drop p).take s) : Nat), .int .i64 ((p + s : Nat) : Int), .int .i64 0]) := fun x S => by
  refine V_wire_Wide_ok ?_
  unfold V_wire_Wide
  have c1 : decide ((s : Int) < 1) = false := decide_eq_false (by omega)
  have c2 : decide ((s : Int) > 8) = false := decide_eq_false (by omega)
  have c3 : decide ((p : Int) < 0) = false := decide_eq_false (by omega)
  have c4 : decide ((p : Int) > bs.length) = false := decide_eq_false (by omega)
  simp only [biLt, biGt, oD, c1, c2, c3, cdF, bD_len, c4]
  unfold J_wire_Wide_0
  simp only [cdF, bD_len, oD, biSub, biGt]
  rw [wrap_i64 (by omega) (by omega), cdI]
  refine ⟨fun hs => ?_, fun hs => ?_⟩
  · rw [if_pos (by omega)]; exact FinD.pure
  rw [if_neg (by omega)]
  refine loop_wire_Wide_0 (I := fun n x0 x1 x2 x9 x29 x30 S' => S' = S ∧ x0 = bD bs ∧ x1 = .int .i64 (p : Int) ∧ x2 = .int .i64 (s : Int) ∧ x29 = .int .i64 (s : Int) ∧ ∃ i : Nat, x30 = .int .i64 (i : Int) ∧ i + n = s ∧ x9 = .int .u64 ((leN ((bs.drop p).take i) : Nat) : Int)) ?_ (n := s)
    ⟨rfl, rfl, rfl, rfl, rfl, 0, rfl, by omega, rfl⟩
  rintro n _ _ _ _ _ _ _ ⟨rfl, rfl, rfl, rfl, rfl, i, rfl, hi, rfl⟩
  unfold B_wire_Wide_0
  rw [biLt, oD, cdI]
  refine ⟨fun hlt => ?_, fun hge => ?_⟩
  · have hlt2 : p + i < bs.length := by omega
    obtain ⟨y, hy⟩ : ∃ y, y = bs[p + i] := ⟨_, rfl⟩
    have hj : bs[p + i]? = some y := by rw [List.getElem?_eq_getElem hlt2, hy]
    obtain ⟨b0, b1⟩ := hb y (by rw [hy]; exact List.getElem_mem _)
    obtain ⟨xn, hxn⟩ : ∃ xn : Nat, y = (xn : Int) := ⟨y.toNat, by omega⟩
    have hbs : ∀ b ∈ (bs.drop p).take i, Byte b := fun b hb' => hb b (List.mem_of_mem_drop (List.mem_of_mem_take hb'))
    have hlen : ((bs.drop p).take i).length = i := by rw [List.length_take, List.length_drop]; omega
    have e3 := leN_lt hbs
    rw [hlen] at e3
    have htk : (bs.drop p).take (i + 1) = (bs.drop p).take i ++ [y] := by
      rw [List.take_add_one, List.getElem?_drop, hj]; rfl
    have hsn := leN_snoc ((bs.drop p).take i) y
    rw [← htk, hlen] at hsn
    have e4 := leN_lt (l := (bs.drop p).take (i + 1)) fun b hb' => hb b (List.mem_of_mem_drop (List.mem_of_mem_take hb'))
    rw [show ((bs.drop p).take (i + 1)).length = i + 1 by rw [List.length_take, List.length_drop]; omega] at e4
    have h3 : 2 ^ (8 * (i + 1)) ≤ 2 ^ 64 := Nat.pow_le_pow_right (by decide) (by omega)
    have h4 : 2 ^ (8 * i) ≤ 2 ^ 64 := Nat.pow_le_pow_right (by decide) (by omega)
    have hxt : y.toNat = xn := by omega
    rw [hxt] at hsn
    rw [biAdd, oD, wrap_i64 (by omega) (by omega), show (p : Int) + (i : Int) = ((p + i : Nat) : Int) by omega, bD_at hj, oD, lsE, List.getElem?_cons_zero, oD, cvI, oD, hxn, u64_nat (by omega), biMul, oD, wrap_i64 (by omega) (by omega),
      show 8 * (i : Int) = ((8 * i : Nat) : Int) by omega, shl_nat (by omega) (by omega), oD, or_nat (by omega) (by omega), oD, or_add e3, biAdd, oD, wrap_i64 (by omega) (by omega)]
    exact ⟨n - 1, by omega, rfl, rfl, rfl, rfl, rfl, i + 1, by simp, by omega, by simp only [hsn]⟩
  · obtain rfl : i = s := by omega
    rw [biAdd, oD, wrap_i64 (by omega) (by omega), show (p : Int) + (i : Int) = ((p + i : Nat) : Int) by omega]
    exact FinD.pure
end
end Go.Proofs.Ytchnpgddpaonhaa.d
end
