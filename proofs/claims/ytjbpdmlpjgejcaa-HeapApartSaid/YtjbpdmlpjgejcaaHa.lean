/-
  HeapApart: what is put into one thing is told by it alone, and by it from then on; whatever the input.
-/
import Derived.Test.YtjbpdmlpjgejcaaRows
import Derived.Test.YtjbpdmlpjgejcaaHs
import Derived.Test.YtjbpdmlpjgejcaaTya
import Derived.Test.YtjbpdmlpjgejcaaAm33
open Go.Proofs Go Go.Am
namespace Go.Proofs.Ytjbpdmlpjgejcaa.heapApart
open Go.Proofs.Ytjbpdmlpjgejcaa.vcs Go.Proofs.Ytjbpdmlpjgejcaa.va Go.Proofs.Ytjbpdmlpjgejcaa.hp
set_option linter.unusedVariables false
set_option linter.unusedSimpArgs false
set_option maxRecDepth 100000

variable {E : Env} {w0 : World}

theorem works_ok {H : AHeap} : FnW Try.prog E w0 10 [] H fun v H' => v = .bool true := by
  have h : (callFA Try.prog (fun _ => none) noOv 200 10 [] AHeap.empty).map (·.1) = some (.bool true) := by kernel_rfl
  cases hr : callFA Try.prog (fun _ => none) noOv 200 10 [] AHeap.empty with
  | none => rw [hr] at h; cases h
  | some r =>
    obtain ⟨v, H1⟩ := r
    rw [hr] at h
    simp only [Option.map_some, Option.some.injEq] at h
    subst h
    exact (fnW_pure vcs.mixed hr (fun ρ vs h => h) (fun ρ ρ' u h => by simpa only [rel] using h)).mono fun v H' e => e.1

/-- The words of the first thing, once one is put. -/
def put (xs : List Int) (i w : Int) : List Int := if 0 ≤ i ∧ i < xs.length then xs.set i.toNat w else xs

def Holds (H : AHeap) (kh : Nat) (L : List Th) : Prop := ∃ lv tvs used limit own, Rp H kh lv tvs L used limit own

theorem loopB {Q : AV → AHeap → Prop} (hQ : ∀ H, Q (.bool true) H) {kh : Nat} {xs ys : List Int} {a1 : AV} (hb : Rd E a1 ys) (hbl : ys.length ≤ 1000) (has : xs.length ≤ 1000)
    {x0 x2 x3 x4 x5 x6 x7 x8 x10 x11 x13 x14 x15 x16 x17 x18 x20 x21 x22 x23 x24 x25 x26 x27 x28 x29 x30 x31 x32 x33 x34 x35 x36 x37 x38 x39 x40 x41 x42 x43 x44 x45 x46 x47 x48 x49 x50 x51 x52 x53 x54 x55 x56 x57 x58 x59 x60 x61 x62 x63 x64 x65 x66 x67 x68 x69 x70 x71 x72 x73 x74 x75 x76 x77 x78 x79 x80 x81 x82 x83 x84 x85 x86 x87 x88 x89 x90 x91 x92 x93 x94 x95 x96 x97 x98 x99 x100 x101 x102 x103 x104 x105 x106 x107 x108 x109 x110 x111 x112 x113 x114 x115 x116 x117 x118 x119 x120 x121 : AV} {H : AHeap}
    (hH : Holds H kh [.flat 16 xs, .flat 16 ys]) :
    CodeW Try.prog E w0 (.loop L3_1) [x0, a1, x2, x3, x4, x5, x6, x7, x8, .ptr (.new kh) 0, x10, x11, .int .u64 2, x13, x14, x15, x16, x17, x18, .int .i64 0, x20, x21, x22, x23, x24, x25, x26, x27, x28, x29, x30, x31, x32, x33, x34, x35, x36, x37, x38, x39, x40, x41, x42, x43, x44, x45, x46, x47, x48, x49, x50, x51, x52, x53, x54, x55, x56, x57, x58, x59, x60, x61, x62, x63, x64, x65, x66, x67, x68, x69, x70, x71, x72, x73, x74, x75, x76, x77, x78, x79, x80, x81, x82, x83, x84, x85, x86, x87, x88, x89, x90, x91, x92, x93, x94, x95, x96, x97, x98, x99, x100, x101, x102, x103, x104, x105, x106, x107, x108, x109, x110, x111, x112, x113, x114, x115, x116, x117, x118, x119, x120, x121] H (K3_1 E w0 Q) := by
  refine loop3_1 (I := fun n t1 t9 t12 t19 H => t1 = a1 ∧ t9 = .ptr (.new kh) 0 ∧ t12 = .int .u64 2 ∧ (∃ k : Nat, t19 = .int .i64 (k : Int) ∧ k + n = ys.length) ∧ Holds H kh [.flat 16 xs, .flat 16 ys]) ?_ (n := ys.length) ⟨rfl, rfl, rfl, ⟨0, rfl, by omega⟩, hH⟩
  rintro n _ _ _ _ H ⟨rfl, rfl, rfl, ⟨k, rfl, hk⟩, lv, tvs, used, limit, own, R⟩
  intros
  unfold B3_1
  rw [hb.len, optW_some, bin_lss, optW_some, condW_bool]
  constructor
  · intro hlt
    have hlt : k < ys.length := by have := of_decide_eq_true hlt; omega
    refine (get_ok (i := (k : Int)) R ?_ (by omega) (by omega)).use ?_
    · intro th hth ws hws
      simp only [List.mem_cons, List.not_mem_nil, or_false] at hth
      rcases hth with rfl | rfl <;> (cases hws; omega)
    rintro v H' ⟨rfl, rfl⟩ _ _
    have hg : getW [.flat 16 xs, .flat 16 ys] 2 (k : Int) = (ys.getD k 0, 0) := by
      simp only [getW, thAt]
      rw [if_pos (by omega)]
      simp only [show ((2 : Int) - 1).toNat = 1 from rfl, List.getElem?_cons_succ, List.getElem?_cons_zero, Option.bind_some, Th.words]
      rw [if_pos ⟨by omega, by omega⟩]
      rfl
    obtain ⟨p, e1, e2⟩ := hb.at hlt H' .i64
    simp only [hg, extractV_tup, List.getElem?_cons_zero, List.getElem?_cons_succ, optW_some, e1, e2, nev_23, nev_3, bne_self_eq_false, wantsA_bool, beq_self_eq_true, valG_true, pickV_bool, Bool.false_eq_true, if_false, condW_false, bin_add]
    rw [wrap_i64 (by omega) (by omega)]
    exact ⟨n - 1, by omega, rfl, rfl, rfl, rfl, ⟨k + 1, by simp, by omega⟩, lv, tvs, used, limit, own, R⟩
  · intro _
    exact works_ok.use fun v H' e _ _ => by rw [e]; exact hQ H'

theorem cap_10000 : cap0 10000 = 10000 := by decide

theorem get_second {xs ys : List Int} {k : Nat} (h : k < ys.length) : getW [.flat 16 xs, .flat 16 ys] 2 (k : Int) = (ys.getD k 0, 0) := by
  simp only [getW, thAt]
  rw [if_pos (by omega)]
  simp only [show ((2 : Int) - 1).toNat = 1 from rfl, List.getElem?_cons_succ, List.getElem?_cons_zero, Option.bind_some, Th.words]
  rw [if_pos ⟨by omega, by omega⟩]
  rfl
theorem get_first {xs ys : List Int} {i : Int} : getW [.flat 16 xs, .flat 16 ys] 1 i = if 0 ≤ i ∧ i < xs.length then (xs.getD i.toNat 0, 0) else (0, 2) := by
  simp only [getW, thAt]
  rw [if_pos (by omega)]
  simp only [show ((1 : Int) - 1).toNat = 0 from rfl, List.getElem?_cons_zero, Option.bind_some, Th.words]
theorem set_first {xs ys : List Int} {i w : Int} : setL [.flat 16 xs, .flat 16 ys] 1 i w = [.flat 16 (put xs i w), .flat 16 ys] := by
  simp only [setL, thAt, put]
  rw [if_pos (by omega)]
  simp only [show ((1 : Int) - 1).toNat = 0 from rfl, List.getElem?_cons_zero, Th.words, Th.put]
  split <;> rfl
theorem put_length (xs : List Int) (i w : Int) : (put xs i w).length = xs.length := by
  unfold put
  split <;> simp

theorem short2 {xs ys : List Int} (h1 : xs.length ≤ 1000) (h2 : ys.length ≤ 1000) : Short [.flat 16 xs, .flat 16 ys] := by
  intro th hth ws hws
  simp only [List.mem_cons, List.not_mem_nil, or_false] at hth
  rcases hth with rfl | rfl <;> (cases hws; omega)

theorem put_get {xs : List Int} {i w : Int} {k : Nat} (h : k < xs.length) : (put xs i w).getD k 0 = if (k : Int) = i then w else xs.getD k 0 := by
  unfold put
  by_cases hi : 0 ≤ i ∧ i < xs.length
  · rw [if_pos hi, List.getD_eq_getElem?_getD, List.getElem?_set]
    by_cases hk : (k : Int) = i
    · rw [if_pos hk, if_pos (by omega), if_pos (by omega)]; rfl
    · rw [if_neg hk, if_neg (by omega), List.getD_eq_getElem?_getD]
  · rw [if_neg hi, if_neg (by omega)]

theorem first {xs ys : List Int} {a0 a1 : AV} (ha : Rd E a0 xs) (hb : Rd E a1 ys) {i w : Int} (h1 : xs.length ≤ 1000) (h2 : ys.length ≤ 1000) {kh : Nat} {x4 x5 x6 x7 x8 x11 x13 x14 x16 x17 x18 x19 x20 x21 x22 x23 x24 x25 x26 x27 x28 x29 x30 x31 x32 x33 x34 x35 x36 x37 x38 x39 x40 x41 x42 x43 x44 x45 x46 x47 x48 x49 x50 x51 x52 x53 x54 x55 x56 x57 x58 x59 x60 x61 x62 x63 x64 x65 x66 x67 x68 x69 x70 x71 x72 x73 x74 x75 x76 x77 x78 x79 x80 x81 x82 x83 x84 x85 x86 x87 x88 x89 x90 x91 x92 x93 x94 x95 x96 x97 x98 x99 x100 x101 x102 x103 x104 x105 x106 x107 x108 x109 x110 x111 x112 x113 x114 x115 x116 x117 x118 x119 x120 x121 : AV} {H : AHeap} (F : Fine H) (hH : Holds H kh [.flat 16 (put xs i w), .flat 16 ys]) :
    CodeW Try.prog E w0 (.loop L3_0) [a0, a1, .int .i64 i, .int .u64 w, x4, x5, x6, x7, x8, .ptr (.new kh) 0, .int .u64 1, x11, .int .u64 2, x13, x14, .int .i64 0, x16, x17, x18, x19, x20, x21, x22, x23, x24, x25, x26, x27, x28, x29, x30, x31, x32, x33, x34, x35, x36, x37, x38, x39, x40, x41, x42, x43, x44, x45, x46, x47, x48, x49, x50, x51, x52, x53, x54, x55, x56, x57, x58, x59, x60, x61, x62, x63, x64, x65, x66, x67, x68, x69, x70, x71, x72, x73, x74, x75, x76, x77, x78, x79, x80, x81, x82, x83, x84, x85, x86, x87, x88, x89, x90, x91, x92, x93, x94, x95, x96, x97, x98, x99, x100, x101, x102, x103, x104, x105, x106, x107, x108, x109, x110, x111, x112, x113, x114, x115, x116, x117, x118, x119, x120, x121] H (K3_0 E w0 fun v _ => v = .bool true) := by
  refine loop3_0 (I := fun n t0 t1 t2 t3 t9 t10 t12 t15 H => t0 = a0 ∧ t1 = a1 ∧ t2 = .int .i64 i ∧ t3 = .int .u64 w ∧ t9 = .ptr (.new kh) 0 ∧ t10 = .int .u64 1 ∧ t12 = .int .u64 2 ∧ (∃ k : Nat, t15 = .int .i64 (k : Int) ∧ k + n = xs.length) ∧ Holds H kh [.flat 16 (put xs i w), .flat 16 ys]) ?_ (n := xs.length)
    ⟨rfl, rfl, rfl, rfl, rfl, rfl, rfl, ⟨0, rfl, by omega⟩, hH⟩
  rintro n _ _ _ _ _ _ _ _ H ⟨rfl, rfl, rfl, rfl, rfl, rfl, rfl, ⟨k, rfl, hk⟩, hH⟩
  intros
  unfold B3_0
  rw [ha.len, optW_some, bin_lss, optW_some, condW_bool]
  have hpl := put_length xs i w
  constructor
  · intro hlt
    have hlt : k < xs.length := by have := of_decide_eq_true hlt; omega
    have hH' := hH
    obtain ⟨lv, tvs, used, limit, own, R⟩ := hH'
    refine (get_ok (i := (k : Int)) R (short2 (by omega) h2) (by omega) (by omega)).use ?_
    rintro v H' ⟨rfl, rfl⟩ _ _
    obtain ⟨p, e1, e2⟩ := ha.at hlt H' .i64
    rw [get_first, if_pos ⟨by omega, by omega⟩]
    simp only [extractV_tup, List.getElem?_cons_zero, List.getElem?_cons_succ, optW_some, e1, e2, eqv_3, Int.toNat_natCast, put_get hlt]
    rw [condW_bool]
    constructor
    · intro hki
      have hki : (k : Int) = i := by simpa using hki
      unfold J3_0
      simp only [if_pos hki, nev_23, bne_self_eq_false, optW_some, wantsA_bool, beq_self_eq_true, valG_true, nev_3, pickV_bool, Bool.false_eq_true, if_false, condW_false, bin_add]
      rw [wrap_i64 (by omega) (by omega)]
      exact ⟨n - 1, by omega, rfl, rfl, rfl, rfl, rfl, rfl, rfl, rfl, ⟨k + 1, by simp, by omega⟩, hH⟩
    · intro hki
      have hki : ¬ (k : Int) = i := by simpa using hki
      unfold J3_0
      simp only [if_neg hki, nev_23, bne_self_eq_false, optW_some, wantsA_bool, beq_self_eq_true, valG_true, nev_3, pickV_bool, Bool.false_eq_true, if_false, condW_false, bin_add]
      rw [wrap_i64 (by omega) (by omega)]
      exact ⟨n - 1, by omega, rfl, rfl, rfl, rfl, rfl, rfl, rfl, rfl, ⟨k + 1, by simp, by omega⟩, hH⟩
  · intro _
    exact loopB (fun _ => rfl) hb h2 (by omega) hH

theorem apart_ok {xs ys : List Int} {a0 a1 : AV} (ha : Rd E a0 xs) (hb : Rd E a1 ys) {i w : Int} (hxl : xs.length < 2 ^ 63) (hyl : ys.length < 2 ^ 63) {H : AHeap} :
    FnW Try.prog E w0 3 [a0, a1, .int .i64 i, .int .u64 w] H fun v _ => v = .bool true := by
  refine fnW_fine fun F => ?_
  refine V3_ok ?_
  unfold V3
  rw [ha.len, optW_some, bin_gtr, optW_some]
  by_cases h1 : (xs.length : Int) > 1000
  · simp only [h1, decide_true, wantsA_bool, show (true == false) = false from rfl, valG_false, optW_some, pickV_bool, if_true, condW_true]
    exact works_ok
  simp only [h1, decide_false, wantsA_bool, beq_self_eq_true, valG_true, optW_some, hb.len, bin_gtr, pickV_bool, Bool.false_eq_true, if_false]
  by_cases h2 : (ys.length : Int) > 1000
  · simp only [h2, decide_true, condW_true]
    exact works_ok
  simp only [h2, decide_false, condW_false]
  refine (new_ok F).use ?_
  rintro v H1 ⟨rfl, R1, _, _⟩ F1 _
  rw [cap_10000] at R1
  rw [eqvn_25, optW_some, condW_false]
  refine (record_ok F1 R1 (by simp) ha (by omega)).use ?_
  intro v H2 hm F2 _
  unfold Makes at hm
  rw [if_pos (by omega)] at hm
  obtain ⟨rfl, lv2, tvs2, own2, R2, _, _⟩ := hm
  simp only [extractV_tup, List.getElem?_cons_zero, List.getElem?_cons_succ, optW_some, List.nil_append, List.length_nil, Nat.zero_add] at R2 ⊢
  refine (record_ok F2 R2 (by simp) hb (by omega)).use ?_
  intro v H3 hm F3 _
  unfold Makes at hm
  rw [if_pos (by omega)] at hm
  obtain ⟨rfl, lv3, tvs3, own3, R3, _, _⟩ := hm
  simp only [extractV_tup, List.getElem?_cons_zero, List.getElem?_cons_succ, optW_some, List.cons_append, List.nil_append, List.length_cons, List.length_nil, Nat.zero_add] at R3 ⊢
  refine (set_ok (i := i) (w := w) F3 R3 (short2 (by omega) (by omega)) (by omega) (by omega)).use ?_
  rintro v H4 ⟨rfl, R4, _, _⟩ F4 _
  have e1 : (((0 + 1 : Nat) : Int)) = 1 := by omega
  rw [e1] at R4 ⊢
  rw [set_first] at R4
  rw [get_first]
  -- the test of what Set told
  have cases3 : (0 ≤ i ∧ i < xs.length) ∨ i < 0 ∨ (0 ≤ i ∧ ¬ i < xs.length) := by omega
  rcases cases3 with ⟨c1, c2⟩ | c1 | ⟨c1, c2⟩
  · have d1 : decide (i ≥ 0) = true := decide_eq_true c1
    have d2 : decide (i < (xs.length : Int)) = true := decide_eq_true c2
    simp only [if_pos (And.intro c1 c2), eqv_3, optW_some, bin_geq, d1, wantsA_bool, beq_self_eq_true, valG_true, ha.len, bin_lss, d2, pickV_bool, if_true, nev_4, Bool.not_true, nev_3, bne_self_eq_false, show (false == true) = false from rfl, valG_false, Bool.false_eq_true, if_false, condW_false]
    exact first ha hb (by omega) (by omega) F4 ⟨_, _, _, _, _, R4⟩
  · have d1 : decide (i ≥ 0) = false := decide_eq_false (by omega)
    simp only [if_neg (show ¬ (0 ≤ i ∧ i < xs.length) by omega), eqv_3, optW_some, bin_geq, d1, wantsA_bool, show (false == true) = false from rfl, valG_false, pickV_bool, Bool.false_eq_true, if_false, nev_4, beq_self_eq_true, valG_true, Bool.not_true, nev_3, show ((2 : Int) == 0) = false from rfl, show ((2 : Int) != 0) = true from rfl, bne_self_eq_false, if_true, condW_false]
    exact first ha hb (by omega) (by omega) F4 ⟨_, _, _, _, _, R4⟩
  · have d1 : decide (i ≥ 0) = true := decide_eq_true c1
    have d2 : decide (i < (xs.length : Int)) = false := decide_eq_false c2
    simp only [if_neg (show ¬ (0 ≤ i ∧ i < xs.length) by omega), eqv_3, optW_some, bin_geq, d1, wantsA_bool, beq_self_eq_true, valG_true, ha.len, bin_lss, d2, show (false == true) = false from rfl, valG_false, pickV_bool, Bool.false_eq_true, if_false, nev_4, Bool.not_true, nev_3, show ((2 : Int) == 0) = false from rfl, show ((2 : Int) != 0) = true from rfl, bne_self_eq_false, if_true, condW_false]
    exact first ha hb (by omega) (by omega) F4 ⟨_, _, _, _, _, R4⟩

section
open Go.ChangeShapes Go.WideShapes Go.ChangeAt Go.RowKit
theorem own : ownKnob Try.prog.godebug = none := by kernel_rfl

theorem words_of {v : Value} {W : World} (h : (oldV v = .nilSlc) ∨ ∃ (b i len cap : Nat) (zs : List Int), oldV v = .slc (.old b) i len cap true 1 ∧ len ≤ cap ∧ cap ≤ maxLen ∧ zs.length = len ∧ (∀ z ∈ zs, (Lit.int .u64 z).wf = true) ∧
      (len = 0 ∨ ∃ cs, envOf W b = some cs ∧ i + len ≤ cs.length ∧ (cs.drop i).take len = zs.map fun z => .int .u64 z)) : ∃ ws : List Int, Rd (envOf W) (oldV v) ws ∧ ws.length < 2 ^ 63 := by
  rcases h with h | ⟨b, i, len, cap, zs, h1, h2, h3, h4, h5, h6⟩
  · exact ⟨[], .inl ⟨h, rfl⟩, by simp⟩
  · refine ⟨zs, .inr ⟨b, i, cap, true, 1, by rw [h1, h4], ?_⟩, by unfold maxLen at h3; omega⟩
    rw [h4]
    exact h6

theorem walk {W : World} {v0 v1 : Value} {i w : Int} (h0 : ∃ ws : List Int, Rd (envOf W) (oldV v0) ws ∧ ws.length < 2 ^ 63) (h1 : ∃ ws : List Int, Rd (envOf W) (oldV v1) ws ∧ ws.length < 2 ^ 63) :
    Calls Try.prog 3 #[v0, v1, .int .i64 i, .int .u64 w] W fun e w => e = .returned (.bool true) ∧ Kept W w := by
  obtain ⟨xs, ha, hx⟩ := h0
  obtain ⟨ys, hb, hy⟩ := h1
  exact calls_law (apart_ok ha hb hx hy)

theorem lifted (os : Os) (started : os.Started) (H : Type) (enc : TypeId × Value → H) :
    ReturnsInHanded {} Try.checked os 3 .any (Rows.heapApartSpec.pre6 enc Try.prog Try.f3 Rows.heapApartRow.domain false) (Rows.heapApartSpec.post enc Try.prog Try.f3 false true false false) := by
  refine returnsInHanded_of_change (C := Try.checked) own started (by kernel_rfl) Try.func3
    (ChangeSpec.witness6 (enc := enc) (C := Try.checked) false ⟨#[], #[.slice none 0 0, .slice none 0 0, .int .i64 0, .int .u64 0], []⟩ 8 (by kernel_rfl) (by kernel_rfl) (by kernel_rfl) (by kernel_rfl)) ?_
  intro W base args ds gs before hval0 hW hcnd _
  have hW' := hW
  obtain ⟨p, q, hA0, hV, rfl, hfz, hnd⟩ := hW
  have hA : DataW.TrodAll enc Try.prog W 0 (fun _ => true) true Try.f3.params.toList args.toList ds p := hA0
  rw [Try.params3] at hA
  obtain ⟨v0, v1, v2, v3, d0, d1, d2, d3, p0, p1, p2, p3, rfl, rfl, rfl, h0, h1, h2, h3⟩ := trodAll_four hA
  obtain ⟨i, rfl, _⟩ := open_int Try.underlying3 (hval0 2 3 v2 (by kernel_rfl) rfl) h2
  obtain ⟨w, rfl, _⟩ := open_int Try.underlying23 (hval0 3 23 v3 (by kernel_rfl) rfl) h3
  have k0 := words_of (W := W) (old_ints Try.underlying22 Try.underlying23 (by kernel_rfl) (hval0 0 22 v0 (by kernel_rfl) rfl) h0)
  have k1 := words_of (W := W) (old_ints Try.underlying22 Try.underlying23 (by kernel_rfl) (hval0 1 22 v1 (by kernel_rfl) rfl) h1)
  refine (walk k0 k1).mono fun e W' ⟨he, hg⟩ => ?_
  subst he
  exact ⟨_, rfl, post_of_law (b := 4) hW' rfl (by kernel_rfl) (of_decide_eq_true (by kernel_rfl)) Try.underlying4 (by kernel_rfl) rfl rfl rfl hg⟩

theorem over : Rows.heapApartRow.holds Try.pinned (OpenSpec.ofChange Rows.heapApartSpec) :=
  OpenClaim.holds_of_wide 3 Try.f3 rfl rfl rfl rfl rfl rfl rfl ⟨rfl, rfl, rfl, rfl, rfl⟩ rfl rfl rfl rfl rfl (by kernel_rfl) Try.func3 (by kernel_rfl)
    (of_decide_eq_true (by kernel_rfl)) (by unfold Func.isWrapper; first | (rw [if_pos (by decide +kernel)]; kernel_rfl) | (rw [if_neg (by decide +kernel)]; exact ⟨rfl, rfl⟩))
    (fun os started H enc _ => lifted os started H enc)

theorem proved : Rows.HeapApartSaid := over
end
end Go.Proofs.Ytjbpdmlpjgejcaa.heapApart
