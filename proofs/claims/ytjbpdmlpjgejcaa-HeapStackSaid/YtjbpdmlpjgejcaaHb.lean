/-
  HeapStack: what is pushed is dropped, the last one first; whatever the input.
-/
import Derived.Test.YtjbpdmlpjgejcaaRows
import Derived.Test.YtjbpdmlpjgejcaaHw
import Derived.Test.YtjbpdmlpjgejcaaTyb
open Go.Proofs Go Go.Am
namespace Go.Proofs.Ytjbpdmlpjgejcaa.heapStack
open Go.Proofs.Ytjbpdmlpjgejcaa.vcs Go.Proofs.Ytjbpdmlpjgejcaa.vb Go.Proofs.Ytjbpdmlpjgejcaa.hp
set_option linter.unusedVariables false
set_option linter.unusedSimpArgs false
set_option maxRecDepth 100000

variable {E : Env} {w0 : World}

def St (H : AHeap) (kh : Nat) (ws : List Int) (used : Int) : Prop := ∃ lv tvs own, Rp H kh lv tvs [.grow 17 ws] used 1048576 own

theorem grow_one (ws : List Int) : growAt [.grow 17 ws] 1 = some (17, ws) := rfl
theorem get_one (ws : List Int) {k : Nat} (h : k < ws.length) : getW [.grow 17 ws] 1 (k : Int) = (ws.getD k 0, 0) := by
  simp only [getW, thAt]
  rw [if_pos (by omega)]
  simp only [show ((1 : Int) - 1).toNat = 0 from rfl, List.getElem?_cons_zero, Option.bind_some, Th.words]
  rw [if_pos ⟨by omega, by omega⟩]
  rfl
theorem len_one (ws : List Int) : lenR [.grow 17 ws] 1 = ((ws.length : Int), true) := rfl
theorem short_one {ws : List Int} (h : ws.length ≤ 1000) : Short [.grow 17 ws] := by
  intro th hth ws' hws
  simp only [List.mem_cons, List.not_mem_nil, or_false] at hth
  subst hth
  cases hws
  omega
theorem take_more {xs : List Int} {k : Nat} (h : k < xs.length) : xs.take k ++ [xs.getD k 0] = xs.take (k + 1) := by
  rw [List.getD_eq_getElem?_getD, List.getElem?_eq_getElem h, List.take_add_one, List.getElem?_eq_getElem h]
  rfl
theorem take_get {xs : List Int} {k n : Nat} (h : k < n) : (xs.take n).getD k 0 = xs.getD k 0 := by
  rw [List.getD_eq_getElem?_getD, List.getElem?_take, if_pos h, List.getD_eq_getElem?_getD]

theorem stack_ok {xs : List Int} {a0 : AV} (ha : Rd E a0 xs) (hxl : xs.length < 2 ^ 63) {H : AHeap} : FnW Try.prog E w0 4 [a0] H fun v _ => v = .bool true := by
  refine fnW_fine fun F => ?_
  refine V4_ok ?_
  unfold V4
  rw [ha.len, optW_some, bin_gtr, optW_some, condW_bool]
  constructor
  · intro _; exact works_ok
  intro hle
  have hle : ¬ (xs.length : Int) > 1000 := of_decide_eq_false hle
  refine (new_ok F).use ?_
  rintro v H1 ⟨rfl, R1, _, _⟩ F1 _
  rw [show cap0 1048576 = 1048576 by decide] at R1
  rw [eqvn_25, optW_some, condW_false]
  refine (empty_ok F1 R1 (by simp)).use ?_
  intro v H2 hm F2 _
  unfold Makes at hm
  rw [if_pos (by omega)] at hm
  obtain ⟨rfl, lv2, tvs2, own2, R2, _, _⟩ := hm
  simp only [extractV_tup, List.getElem?_cons_zero, List.getElem?_cons_succ, optW_some, List.nil_append, List.length_nil, Nat.zero_add] at R2 ⊢
  refine loop4_0 (I := fun n t0 t3 t4 t6 H' => Fine H' ∧ a0 = t0 ∧ t3 = .ptr (.new H.next) 0 ∧ t4 = .int .u64 1 ∧ ∃ k : Nat, t6 = .int .i64 (k : Int) ∧ k + n = xs.length ∧ St H' H.next (xs.take k) (1 + k)) ?_ (n := xs.length)
    ⟨F2, rfl, rfl, rfl, 0, rfl, by omega, lv2, tvs2, own2, by rw [show (1 : Int) + ((0 : Nat) : Int) = 0 + 1 by omega]; exact R2⟩
  rintro n _ _ _ _ H3 ⟨F3, rfl, rfl, rfl, k, rfl, hk, lv3, tvs3, own3, R3⟩
  intros
  unfold B4_0
  have htl : (xs.take k).length = k := by rw [List.length_take]; omega
  rw [ha.len, optW_some, bin_lss, optW_some, condW_bool]
  constructor
  · intro hlt
    have hlt : k < xs.length := by have := of_decide_eq_true hlt; omega
    obtain ⟨p, e1, e2⟩ := ha.at hlt H3 .i64
    rw [e1, optW_some, e2, optW_some]
    refine (push_ok (w := xs.getD k 0) F3 R3 (short_one (by omega)) (by omega) (by omega)).use ?_
    rintro v H4 ⟨rfl, hnow⟩ F4 _
    have hR : pushR [.grow 17 (xs.take k)] 1 (1 + k) 1048576 = 0 := by
      unfold pushR
      rw [grow_one]
      simp only
      rw [if_neg (by omega), if_pos (by omega)]
    have hL : pushL [.grow 17 (xs.take k)] 1 (xs.getD k 0) (1 + k) 1048576 = [.grow 17 (xs.take (k + 1))] := by
      unfold pushL
      rw [grow_one]
      simp only
      rw [if_neg (by omega), if_pos (by omega), take_more hlt]
      rfl
    have hU : pushU [.grow 17 (xs.take k)] 1 (1 + k) 1048576 = 1 + ((k + 1 : Nat) : Int) := by
      unfold pushU
      rw [grow_one]
      simp only
      rw [if_neg (by omega), if_pos (by omega)]
      omega
    rw [hL, hU] at hnow
    obtain ⟨lv4, tvs4, own4, R4, _, _⟩ := hnow
    have htl' : (xs.take (k + 1)).length = k + 1 := by rw [List.length_take]; omega
    simp only [hR, nev_3, bne_self_eq_false, optW_some, condW_false]
    refine (get_ok (i := (k : Int)) R4 (short_one (by omega)) (by omega) (by omega)).use ?_
    rintro v H5 ⟨rfl, rfl⟩ F5 _
    rw [get_one _ (by omega), take_get (by omega)]
    simp only [extractV_tup, List.getElem?_cons_zero, List.getElem?_cons_succ, optW_some]
    refine (len_ok R4 (by omega) (by omega)).use ?_
    rintro v H5 ⟨rfl, rfl⟩ _ _
    obtain ⟨p', e1', e2'⟩ := ha.at hlt H5 .i64
    cases e1.symm.trans e1'
    rw [len_one, htl']
    simp only [extractV_tup, List.getElem?_cons_zero, List.getElem?_cons_succ, optW_some, e1', e2', nev_23, bne_self_eq_false, wantsA_bool, beq_self_eq_true, valG_true, nev_3, pickV_bool, Bool.false_eq_true, if_false, bin_add]
    rw [wrap_i64 (by omega) (by omega)]
    simp only [Int.natCast_add, Int.cast_ofNat_Int, bne_self_eq_false, optW_some, pickV_bool, Bool.false_eq_true, if_false, wantsA_bool, beq_self_eq_true, valG_true, un_not, Bool.not_true, condW_false]
    exact ⟨n - 1, by omega, rfl, F5, rfl, rfl, rfl, k + 1, by simp, by omega, lv4, tvs4, own4, R4⟩
  · intro hge
    have hge : ¬ (k : Int) < xs.length := of_decide_eq_false hge
    have hkl : k = xs.length := by omega
    subst hkl
    rw [optW_some, bin_sub, optW_some, wrap_i64 (by omega) (by omega)]
    refine loop4_1 (I := fun n t0 t3 t4 t11 H' => Fine H' ∧ a0 = t0 ∧ t3 = .ptr (.new H.next) 0 ∧ t4 = .int .u64 1 ∧ t11 = .int .i64 ((n : Int) - 1) ∧ n ≤ xs.length ∧ St H' H.next (xs.take n) (1 + xs.length)) ?_ (n := xs.length)
      ⟨F3, rfl, rfl, rfl, rfl, Nat.le_refl _, lv3, tvs3, own3, R3⟩
    rintro n _ _ _ _ H6 ⟨F6, rfl, rfl, rfl, rfl, hn, lv6, tvs6, own6, R6⟩
    intros
    unfold B4_1
    have htn : (xs.take n).length = n := by rw [List.length_take]; omega
    rw [bin_geq, optW_some, condW_bool]
    constructor
    · intro hge
      have hge : (n : Int) - 1 ≥ 0 := of_decide_eq_true hge
      refine (drop_ok F6 R6 (short_one (by omega)) (by omega) (by omega)).use ?_
      rintro v H7 ⟨rfl, hnow⟩ F7 _
      have hR : dropR [.grow 17 (xs.take n)] 1 = (xs.getD (n - 1) 0, 0) := by
        unfold dropR
        rw [grow_one]
        simp only
        rw [if_neg (by omega), htn, take_get (by omega)]
      have hL : dropL [.grow 17 (xs.take n)] 1 = [.grow 17 (xs.take (n - 1))] := by
        unfold dropL
        rw [grow_one]
        simp only
        rw [if_neg (by omega), htn, List.take_take, show min (n - 1) n = n - 1 by omega]
        rfl
      rw [hL] at hnow
      obtain ⟨lv7, tvs7, own7, R7, _, _⟩ := hnow
      obtain ⟨p, e1, e2⟩ := ha.at (n := n - 1) (by omega) H7 .i64
      rw [show ((n - 1 : Nat) : Int) = (n : Int) - 1 by omega] at e1
      simp only [hR, extractV_tup, List.getElem?_cons_zero, List.getElem?_cons_succ, optW_some, e1, e2, nev_23, bne_self_eq_false, wantsA_bool, beq_self_eq_true, valG_true, nev_3, pickV_bool, Bool.false_eq_true, if_false, condW_false, bin_sub]
      rw [wrap_i64 (by omega) (by omega)]
      exact ⟨n - 1, by omega, rfl, F7, rfl, rfl, rfl, by simp; omega, by omega, lv7, tvs7, own7, R7⟩
    · intro hneg
      have hneg : ¬ (n : Int) - 1 ≥ 0 := of_decide_eq_false hneg
      have h0 : n = 0 := by omega
      subst h0
      refine (drop_ok F6 R6 (short_one (by omega)) (by omega) (by omega)).use ?_
      rintro v H7 ⟨rfl, hnow⟩ F7 _
      have hR : dropR [.grow 17 (xs.take 0)] 1 = (0, 7) := rfl
      have hL : dropL [.grow 17 (xs.take 0)] 1 = [.grow 17 []] := rfl
      rw [hL] at hnow
      obtain ⟨lv7, tvs7, own7, R7, _, _⟩ := hnow
      simp only [hR, extractV_tup, List.getElem?_cons_zero, List.getElem?_cons_succ, optW_some, eqv_3, beq_self_eq_true, wantsA_bool, valG_true, guardW_true]
      refine (used_ok R7).use ?_
      rintro v H8 ⟨rfl, rfl⟩ _ _
      simp only [ha.len, optW_some, bin_add]
      rw [wrap_i64 (by omega) (by omega)]
      simp only [eqv_3, beq_self_eq_true, optW_some, pickV_bool, if_true, wantsA_bool, guardW_true]
      refine works_ok.use ?_
      rintro v H9 rfl _ _
      rfl

section
open Go.ChangeShapes Go.WideShapes Go.ChangeAt Go.RowKit

theorem walk {W : World} {v0 : Value} (h0 : ∃ ws : List Int, Rd (envOf W) (oldV v0) ws ∧ ws.length < 2 ^ 63) : Calls Try.prog 4 #[v0] W fun e w => e = .returned (.bool true) ∧ Kept W w := by
  obtain ⟨xs, ha, hx⟩ := h0
  exact calls_law (stack_ok ha hx)

theorem lifted (os : Os) (started : os.Started) (H : Type) (enc : TypeId × Value → H) :
    ReturnsInHanded {} Try.checked os 4 .any (Rows.heapStackSpec.pre6 enc Try.prog Try.f4 Rows.heapStackRow.domain false) (Rows.heapStackSpec.post enc Try.prog Try.f4 false true false false) := by
  refine returnsInHanded_of_change (C := Try.checked) hp.own started (by kernel_rfl) Try.func4
    (ChangeSpec.witness6 (enc := enc) (C := Try.checked) false ⟨#[], #[.slice none 0 0], []⟩ 8 (by kernel_rfl) (by kernel_rfl) (by kernel_rfl) (by kernel_rfl)) ?_
  intro W base args ds gs before hval0 hW hcnd _
  have hW' := hW
  obtain ⟨p, q, hA0, hV, rfl, hfz, hnd⟩ := hW
  have hA : DataW.TrodAll enc Try.prog W 0 (fun _ => true) true Try.f4.params.toList args.toList ds p := hA0
  rw [Try.params4] at hA
  obtain ⟨v0, d0, rfl, rfl, h0⟩ := trodAll_one hA
  have k0 := words_of (W := W) (old_ints Try.underlying22 Try.underlying23 (by kernel_rfl) (hval0 0 22 v0 (by kernel_rfl) rfl) h0)
  refine (walk k0).mono fun e W' ⟨he, hg⟩ => ?_
  subst he
  exact ⟨_, rfl, post_of_law (b := 4) hW' rfl laid (of_decide_eq_true (by kernel_rfl)) Try.underlying4 (by kernel_rfl) rfl rfl rfl hg⟩

theorem over : Rows.heapStackRow.holds Try.pinned (OpenSpec.ofChange Rows.heapStackSpec) :=
  OpenClaim.holds_of_wide 4 Try.f4 rfl rfl rfl rfl rfl rfl rfl ⟨rfl, rfl, rfl, rfl, rfl⟩ rfl rfl rfl rfl rfl (by kernel_rfl) Try.func4 (by kernel_rfl)
    (of_decide_eq_true (by kernel_rfl)) (by unfold Func.isWrapper; first | (rw [if_pos (by decide +kernel)]; kernel_rfl) | (rw [if_neg (by decide +kernel)]; exact ⟨rfl, rfl⟩))
    (fun os started H enc _ => lifted os started H enc)

theorem proved : Rows.HeapStackSaid := over
end
end Go.Proofs.Ytjbpdmlpjgejcaa.heapStack
