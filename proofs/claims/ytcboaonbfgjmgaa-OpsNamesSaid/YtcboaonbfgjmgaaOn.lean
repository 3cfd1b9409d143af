/-
  OpsNames: names of unlike Ops are unlike, each Op has one and nothing else; whatever the call.
-/
import Derived.Test.YtcboaonbfgjmgaaVc
import Derived.Test.YtcboaonbfgjmgaaAm32
import Derived.Test.YtcboaonbfgjmgaaAm28
open Go.Proofs Go Go.Am
namespace Go.Proofs.Ytcboaonbfgjmgaa.opsNames
open Go.Proofs.Ytcboaonbfgjmgaa.vcs
set_option linter.unusedVariables false
set_option maxRecDepth 100000

/-- The names' bytes. -/
def table : List (List UInt8) :=
  [[], [105, 56], [105, 51, 50], [105, 54, 52], [116, 114, 117, 101], [102, 97, 108, 115, 101], [116, 101, 120, 116], [103, 101, 116], [112, 117, 116], [112, 111, 112], [100, 117, 112], [97, 100, 100], [115, 117, 98],
   [109, 117, 108], [100, 105, 118], [114, 101, 109], [97, 110, 100], [111, 114], [120, 111, 114], [115, 104, 108], [115, 104, 114], [110, 101, 103], [110, 111, 116], [101, 113], [110, 101], [108, 116], [108, 101], [103, 116], [103, 101],
   [99, 111, 110, 118], [102, 108, 105, 112], [99, 97, 116], [115, 105, 122, 101], [99, 104, 97, 114, 97, 116], [99, 117, 116], [98, 121, 116, 101], [110, 101, 119], [102, 105, 101, 108, 100], [115, 101, 116, 102, 105, 101, 108, 100],
   [102, 105, 108, 108], [101, 109, 112, 116, 121], [97, 116], [115, 101, 116, 97, 116], [108, 101, 110], [112, 117, 115, 104], [100, 114, 111, 112], [106, 117, 109, 112], [117, 110, 108, 101, 115, 115], [119, 104, 101, 110],
   [115, 119, 105, 116, 99, 104], [99, 97, 108, 108], [114, 101, 116, 117, 114, 110], [116, 114, 97, 112]]
def nm (i : Nat) : List UInt8 := table.getD i []

variable {E : Env} {w0 : World}

theorem conv_8 (H : AHeap) (n : Int) : (convA Try.prog E H 5 3 (.int .u8 n)).map (·.1) = some (.int .i64 (IntKind.i64.wrap n)) := by kernel_rfl
theorem conv_i (H : AHeap) (n : Int) : (convA Try.prog E H 3 5 (.int .i64 n)).map (·.1) = some (.int .u8 (IntKind.u8.wrap n)) := by kernel_rfl
theorem store_85 (H : AHeap) (o : Am.Id) (i : Nat) (x : AV) (K : AV → AHeap → Prop) : storeW Try.prog H 85 (.ptr o i) x K = if some 53 = some x.cells.length then optW (storeRange H o i x.cells) fun H' => K undefA H' else False := by kernel_rfl
theorem index_85 (o : Am.Id) (i : Nat) (k : IntKind) (n : Int) : indexAtA Try.prog 85 (.ptr o i) (.int k n) = if 0 ≤ n ∧ n < 53 then some (.ptr o (i + n.toNat * 1)) else none := by kernel_rfl
theorem load_9 (H : AHeap) (o : Am.Id) (i : Nat) : loadV Try.prog E H 9 (.ptr o i) = loadCell E H o i := by kernel_rfl

theorem V17_is {Q : AV → AHeap → Prop} {n : Int} {H : AHeap} : V17 E w0 Q (.int .u8 n) H =
    (withW (.ptr (.new H.next) 0) (newCells H (List.replicate 53 (.str []))) fun p3 H1 => storeW Try.prog H1 85 p3 (.agg (table.map .str)) fun _ H5 =>
      condW (.bool (decide (IntKind.i64.wrap n < 53)))
        (optW (indexAtA Try.prog 85 p3 (.int .u8 n)) fun v8 => optW (loadV Try.prog E H5 9 v8) fun v9 => Q v9 H5)
        (Q (.str []) H5)) := by kernel_rfl

theorem setMany_all : ∀ (cs vs : List AV), vs.length = cs.length → setMany cs 0 vs = vs := by
  have key : ∀ (vs pre cs : List AV), vs.length = cs.length → setMany (pre ++ cs) pre.length vs = pre ++ vs := by
    intro vs
    induction vs with
    | nil => intro pre cs h; cases cs with
      | nil => rfl
      | cons => simp at h
    | cons v vs ih =>
      intro pre cs h
      cases cs with
      | nil => simp at h
      | cons c cs =>
        simp only [setMany]
        have := ih (pre ++ [v]) cs (by simpa using h)
        simp only [List.length_append, List.length_cons, List.length_nil] at this
        rw [show (pre ++ c :: cs).set pre.length v = (pre ++ [v]) ++ cs by simp]
        simpa using this
  intro cs vs h
  have := key vs [] cs h
  simpa using this

theorem name_ok {i : Nat} (hi : i < 256) {H : AHeap} : FnW Try.prog E w0 17 [.int .u8 (i : Int)] H fun v _ => v = .str (nm i) := by
  refine V17_ok ?_
  rw [V17_is, withW_eq, store_85]
  have hcells : (AV.agg (table.map AV.str)).cells = table.map AV.str := rfl
  rw [if_pos (by rw [hcells]; rfl), hcells]
  have hst : storeRange (newCells H (List.replicate 53 (.str []))) (.new H.next) 0 (table.map .str) = some (((newCells H (List.replicate 53 (.str []))).killAll []).set H.next (.cells (table.map .str) true [])) := by
    obtain ⟨x, l, hx⟩ : ∃ x l, table.map AV.str = x :: l := ⟨_, _, rfl⟩
    have h53 : l.length = 52 := by
      have := congrArg List.length hx
      simpa [table] using this.symm
    rw [hx, storeRange_new ((get_newCells _ _ _).trans (if_pos rfl)) 0 x l (by simp [h53]) (by rw [← hx]; rfl), setMany_all _ _ (by simp [h53])]
  rw [hst, optW_some]
  have hw : IntKind.i64.wrap (i : Int) = i := wrap_i64 (by omega) (by omega)
  rw [hw, condW_bool]
  constructor
  · intro hlt
    have hlt : (i : Int) < 53 := by simpa using hlt
    rw [index_85, if_pos ⟨by omega, by omega⟩, optW_some, load_9, loadCell_new (cs := table.map .str) E ((get_set' _ _ _ _).trans (if_pos rfl))]
    have hil : i < table.length := by
      have : table.length = 53 := rfl
      omega
    have : (table.map AV.str)[0 + (i : Int).toNat * 1]? = some (.str (nm i)) := by
      simp only [Nat.zero_add, Nat.mul_one, Int.toNat_natCast, List.getElem?_map, nm, List.getD_eq_getElem?_getD, List.getElem?_eq_getElem hil]
      rfl
    rw [this, optW_some]
  · intro hge
    have hge : 53 ≤ (i : Int) := by simpa using hge
    have : nm i = [] := by
      have : table.length = 53 := rfl
      simp only [nm, List.getD_eq_getElem?_getD, List.getElem?_eq_none (show table.length ≤ i by omega)]
      rfl
    rw [this]

theorem unlike : ∀ i, i < 53 → ∀ k, k < i → 1 ≤ k → nm k ≠ nm i := by decide +kernel
theorem named : ∀ i, i < 53 → 1 ≤ i → nm i ≠ [] := by decide +kernel
theorem nameless {i : Nat} (h : 53 ≤ i) : nm i = [] := by
  have : table.length = 53 := rfl
  simp only [nm, List.getD_eq_getElem?_getD, List.getElem?_eq_none (show table.length ≤ i by omega)]
  rfl

theorem works_ok {H : AHeap} : FnW Try.prog E w0 11 [] H fun v H' => v = .bool true := by
  have h : (callFA Try.prog (fun _ => none) noOv 200 11 [] AHeap.empty).map (·.1) = some (.bool true) := by kernel_rfl
  cases hr : callFA Try.prog (fun _ => none) noOv 200 11 [] AHeap.empty with
  | none => rw [hr] at h; cases h
  | some r =>
    obtain ⟨v, H1⟩ := r
    rw [hr] at h
    simp only [Option.map_some, Option.some.injEq] at h
    subst h
    exact (fnW_pure mixed hr (fun ρ vs h => h) (fun ρ ρ' u h => by simpa only [rel] using h)).mono fun v H' e => e.1

theorem inner (i : Nat) (hi : i < 256) {N0 : List AV → AHeap → Prop} {Q : AV → AHeap → Prop} (hN : ∀ x0 x2 x3 x4 x5 x6 x7 x8 x9 x10 x11 x12 x13 x14 x15 x16 x17 x18 x19 x20 x21 x22 x23 x24 x25 x26 x27 x28 x29 x30 x31 x32 x33 x34 H,
      N0 [x0, .int .i64 ((i + 1 : Nat) : Int), x2, x3, x4, x5, x6, x7, x8, x9, x10, x11, x12, x13, x14, x15, x16, x17, x18, x19, x20, x21, x22, x23, x24, x25, x26, x27, x28, x29, x30, x31, x32, x33, x34] H)
    {x0 x4 x5 x6 x7 x8 x9 x10 x11 x12 x13 x14 x15 x16 x17 x18 x19 x20 x21 x22 x23 x24 x25 x26 x27 x28 x29 x30 x31 x32 x33 x34 : AV} {H : AHeap} :
    CodeW Try.prog E w0 (.loop L6_1) [x0, .int .i64 i, .str (nm i), .int .i64 1, x4, x5, x6, x7, x8, x9, x10, x11, x12, x13, x14, x15, x16, x17, x18, x19, x20, x21, x22, x23, x24, x25, x26, x27, x28, x29, x30, x31, x32, x33, x34] H (K6_1 E w0 N0 Q) := by
  refine loop6_1 (I := fun n t1 t2 t3 _ => t1 = .int .i64 (i : Int) ∧ t2 = .str (nm i) ∧ ∃ k : Nat, t3 = .int .i64 (k : Int) ∧ 1 ≤ k ∧ k + n = 300) ?_ (n := 299) ⟨rfl, rfl, 1, rfl, by omega, by omega⟩
  rintro n x0 x1 x2 x3 x4 x5 x6 x7 x8 x9 x10 x11 x12 x13 x14 x15 x16 x17 x18 x19 x20 x21 x22 x23 x24 x25 x26 x27 x28 x29 x30 x31 x32 x33 x34 H ⟨rfl, rfl, k, rfl, hk1, hkn⟩
  unfold B6_1
  rw [bin_lss, optW_some, condW_bool]
  constructor
  · intro hlt
    have hlt : k < i := by simpa using hlt
    rw [nev_str, optW_some]
    have next : ∀ v9 v13 v16 v17 v18 v19 v20 v21 v22 v23 v25 v26 v27 v28 v29 v30 v31 v32 v33 v34 H', optW (binA Try.prog .add 3 (.int .i64 (k : Int)) (.int .i64 1)) fun w =>
        (fun T H => ∃ m, m < n ∧ I6_1 ((fun n t1 t2 t3 _ => t1 = .int .i64 (i : Int) ∧ t2 = .str (nm i) ∧ ∃ k : Nat, t3 = .int .i64 (k : Int) ∧ 1 ≤ k ∧ k + n = 300) m) T H) [x0, .int .i64 (i : Int), .str (nm i), w, x4, x5, x6, x7, x8, v9, x10, x11, x12, v13, x14, x15, v16, v17, v18, v19, v20, v21, v22, v23, w, v25, v26, v27, v28, v29, v30, v31, v32, v33, v34] H' := by
      intros
      rw [bin_add, optW_some, wrap_i64 (by omega) (by omega)]
      exact ⟨n - 1, by omega, rfl, rfl, rfl, k + 1, by simp, by omega, by omega⟩
    by_cases hs : nm i = []
    · simp only [hs, beq_self_eq_true, Bool.not_true, wantsA_bool, valG_false, optW_some, guardW_false, pickV_bool, Bool.false_eq_true, if_false, condW_false, show (false == true) = false from rfl]
      simp only [hs] at next
      exact next ..
    · have hne : (nm i == []) = false := by simpa using hs
      simp only [hne, Bool.not_false, wantsA_bool, beq_self_eq_true, valG_true, optW_some, conv_i, guardW_true]
      rw [show IntKind.u8.wrap (k : Int) = (k : Int) from wrap_u8 (by omega) (by omega)]
      refine (name_ok (by omega)).use ?_
      rintro v H' rfl _ _
      have hi53 : i < 53 := by
        refine Nat.lt_of_not_le fun h => hs (nameless h)
      have hun : (nm k == nm i) = false := by simpa using unlike i hi53 k hlt hk1
      rw [eqv_str]
      simp only [optW_some, hun, pickV_bool, if_true, condW_false]
      exact next ..
  · intro hge
    rw [bin_add, optW_some, wrap_i64 (by omega) (by omega)]
    exact hN ..

theorem run_ok {H : AHeap} : FnW Try.prog E w0 6 [] H fun v _ => v = .bool true := by
  refine V6_ok ?_
  unfold V6
  refine loop6_0 (I := fun n t1 _ => ∃ i : Nat, t1 = .int .i64 (i : Int) ∧ i + n = 256) ?_ (n := 256) ⟨0, rfl, by omega⟩
  rintro n x0 x1 x2 x3 x4 x5 x6 x7 x8 x9 x10 x11 x12 x13 x14 x15 x16 x17 x18 x19 x20 x21 x22 x23 x24 x25 x26 x27 x28 x29 x30 x31 x32 x33 x34 H ⟨i, rfl, hn⟩
  unfold B6_0
  rw [bin_lss, optW_some, condW_bool]
  constructor
  · intro hlt
    have hlt : i < 256 := by have := of_decide_eq_true hlt; omega
    rw [conv_i, optW_some, show IntKind.u8.wrap (i : Int) = (i : Int) from wrap_u8 (by omega) (by omega)]
    refine (name_ok hlt).use ?_
    rintro v H' rfl _ _
    have same : (!(nm i == [])) = (decide ((i : Int) ≥ 1) && decide ((i : Int) ≤ 52)) := by
      by_cases h53 : i < 53
      · by_cases h1 : 1 ≤ i
        · have := named i h53 h1
          have e : (nm i == []) = false := by simpa using this
          rw [e]
          simp; omega
        · have : i = 0 := by omega
          subst this; rfl
      · rw [nameless (by omega)]
        simp; omega
    rw [nev_str, optW_some, bin_geq, optW_some]
    cases hg : decide ((i : Int) ≥ 1) with
    | true =>
      simp only [wantsA_bool, beq_self_eq_true, valG_true, optW_some, bin_leq, pickV_bool, if_true]
      rw [nev_bool Try.underlying4, optW_some, same, hg, Bool.true_and]
      simp only [beq_self_eq_true, Bool.not_true, condW_false]
      refine inner i hlt ?_
      intros
      exact ⟨n - 1, by omega, rfl, i + 1, rfl, by omega⟩
    | false =>
      simp only [wantsA_bool, show (false == true) = false from rfl, valG_false, optW_some, pickV_bool, Bool.false_eq_true, if_false]
      rw [nev_bool Try.underlying4, optW_some, same, hg, Bool.false_and]
      simp only [beq_self_eq_true, Bool.not_true, condW_false]
      refine inner i hlt ?_
      intros
      exact ⟨n - 1, by omega, rfl, i + 1, rfl, by omega⟩
  · intro _
    exact works_ok

section
open Go.ChangeShapes Go.WideShapes Go.ChangeAt Go.RowKit
theorem own : ownKnob Try.prog.godebug = none := by kernel_rfl
theorem walk (W : World) : Calls Try.prog 6 #[] W fun e w => e = .returned (.bool true) ∧ Kept W w :=
  calls_true_W (E := fun _ => none) run_ok (fun b cs e => by cases e) (relL_nil.2 rfl)

theorem lifted (os : Os) (started : os.Started) (H : Type) (enc : TypeId × Value → H) :
    ReturnsInHanded {} Try.checked os 6 .any (Rows.opsNamesSpec.pre6 enc Try.prog Try.f6 Rows.opsNamesRow.domain false) (Rows.opsNamesSpec.post enc Try.prog Try.f6 false true false false) := by
  refine returnsInHanded_of_change (C := Try.checked) own started (by kernel_rfl) Try.func6
    (ChangeSpec.witness6 (enc := enc) (C := Try.checked) false ⟨#[], #[], []⟩ 8 (by kernel_rfl) (by kernel_rfl) (by kernel_rfl) (by kernel_rfl)) ?_
  intro W base args ds gs before hval0 hW hcnd _
  have hW' := hW
  obtain ⟨p, q, hA0, hV, rfl, hfz, hnd⟩ := hW
  have hA : DataW.TrodAll enc Try.prog W 0 (fun _ => true) true Try.f6.params.toList args.toList ds p := hA0
  rw [Try.params6] at hA
  obtain ⟨rfl, rfl, rfl⟩ := trodAll_none hA
  obtain ⟨rfl, rfl⟩ := trodVars_none hV
  clear hA0 hval0
  simp only [List.append_nil] at hW'
  refine (walk W).mono fun e W' ⟨he, hg⟩ => ?_
  subst he
  exact ⟨_, rfl, post_of_kept (pa := []) (pv := []) hW' (fun _ _ _ => (trodAll_cons_mk (shut_bool Try.underlying4 _) trodAll_mk0)) (fun sp _ => rfl) (fun _ _ => rfl) rfl hg (ok_one (by kernel_rfl) rfl (okWide_bool_mk Try.underlying4 _))⟩

theorem over : Rows.opsNamesRow.holds Try.pinned (OpenSpec.ofChange Rows.opsNamesSpec) :=
  OpenClaim.holds_of_wide 6 Try.f6 rfl rfl rfl rfl rfl rfl rfl ⟨rfl, rfl, rfl, rfl, rfl⟩ rfl rfl rfl rfl rfl (by kernel_rfl) Try.func6 (by kernel_rfl)
    (of_decide_eq_true (by kernel_rfl)) (by unfold Func.isWrapper; first | (rw [if_pos (by decide +kernel)]; kernel_rfl) | (rw [if_neg (by decide +kernel)]; exact ⟨rfl, rfl⟩))
    (fun os started H enc _ => lifted os started H enc)

theorem proved : Rows.OpsNamesSaid := over
end
end Go.Proofs.Ytcboaonbfgjmgaa.opsNames
