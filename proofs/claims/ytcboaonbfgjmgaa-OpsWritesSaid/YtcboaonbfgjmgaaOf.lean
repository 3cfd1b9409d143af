/-
  Instructions: names; bytes as a text.
-/
import Derived.Test.YtcboaonbfgjmgaaOe
import Derived.Test.YtcboaonbfgjmgaaTyr
open Go.Proofs Go Go.Am
namespace Go.Proofs.Ytcboaonbfgjmgaa.op
open Go.Proofs.Ytcboaonbfgjmgaa.vb Go.Proofs.Ytcboaonbfgjmgaa.vr
set_option linter.unusedVariables false
set_option linter.unusedSimpArgs false
set_option maxRecDepth 100000

/-- The names' bytes. -/
def table : List (List UInt8) :=
  [[], [105, 56], [105, 51, 50], [105, 54, 52], [116, 114, 117, 101], [102, 97, 108, 115, 101], [116, 101, 120, 116], [103, 101, 116], [112, 117, 116], [112, 111, 112], [100, 117, 112], [97, 100, 100], [115, 117, 98],
   [109, 117, 108], [100, 105, 118], [114, 101, 109], [97, 110, 100], [111, 114], [120, 111, 114], [115, 104, 108], [115, 104, 114], [110, 101, 103], [110, 111, 116], [101, 113], [110, 101], [108, 116], [108, 101], [103, 116], [103, 101],
   [99, 111, 110, 118], [102, 108, 105, 112], [99, 97, 116], [115, 105, 122, 101], [99, 104, 97, 114, 97, 116], [99, 117, 116], [98, 121, 116, 101], [110, 101, 119], [102, 105, 101, 108, 100], [115, 101, 116, 102, 105, 101, 108, 100],
   [102, 105, 108, 108], [101, 109, 112, 116, 121], [97, 116], [115, 101, 116, 97, 116], [108, 101, 110], [112, 117, 115, 104], [100, 114, 111, 112], [106, 117, 109, 112], [117, 110, 108, 101, 115, 115], [119, 104, 101, 110],
   [115, 119, 105, 116, 99, 104], [99, 97, 108, 108], [114, 101, 116, 117, 114, 110], [116, 114, 97, 112]]
def nm (i : Nat) : List UInt8 := table.getD i []

variable {E : Env} {w0 : World}

theorem V17_is {Q : AV → AHeap → Prop} {n : Int} {H : AHeap} : V17 E w0 Q (.int .u8 n) H =
    (withW (.ptr (.new H.next) 0) (newCells H (List.replicate 53 (.str []))) fun p3 H1 => storeW Try.prog H1 85 p3 (.agg (table.map .str)) fun _ H5 =>
      condW (.bool (decide (IntKind.i64.wrap n < 53)))
        (optW (indexAtA Try.prog 85 p3 (.int .u8 n)) fun v8 => optW (loadV Try.prog E H5 9 v8) fun v9 => Q v9 H5)
        (Q (.str []) H5)) := by kernel_rfl

theorem V18_is {Q : AV → AHeap → Prop} {n : Int} {H : AHeap} : V18 E w0 Q (.int .u8 n) H =
    (opt2W (some (.slc (.new H.next) 0 53 53 true 1, newCells H (table.map .str))) fun v0 H1 =>
      condW (.bool (decide (IntKind.i64.wrap n ≥ 53))) (Q (.str []) H1)
        (optW (indexAtA Try.prog 52 v0 (.int .u8 n)) fun v5 => optW (loadV Try.prog E H1 9 v5) fun v6 => Q v6 H1)) := by kernel_rfl
theorem sz_85 : sizeA Try.prog 85 = some (AV.agg (table.map AV.str)).cells.length := by kernel_rfl
theorem table_length : table.length = 53 := rfl
theorem table_get {i : Nat} (hi : i < 53) : (table.map AV.str)[i]? = some (.str (nm i)) := by
  have hl : i < table.length := by rw [table_length]; exact hi
  rw [List.getElem?_map, List.getElem?_eq_getElem hl, nm, List.getD_eq_getElem?_getD, List.getElem?_eq_getElem hl]
  rfl
theorem nm_none {i : Nat} (hi : 53 ≤ i) : nm i = [] := by
  rw [nm, List.getD_eq_getElem?_getD, List.getElem?_eq_none (by rw [table_length]; exact hi)]
  rfl

theorem name_ok {op : Int} (h0 : 0 ≤ op) (h1 : op ≤ 255) {H : AHeap} (F : Fine H) : FnX Try.prog E w0 17 [.int .u8 op] H fun v H' => v = .str (nm op.toNat) ∧ Stays H H' := by
  refine V17_ok ?_
  rw [V17_is, wW]
  obtain ⟨a1, a2, a3, F1⟩ := F.newCells (List.replicate 53 (AV.str []))
  have hcells : (AV.agg (table.map AV.str)).cells = table.map AV.str := rfl
  obtain ⟨H2, c1, c2, c3, c4, F2⟩ := F1.stores a1 (n := 0) (vs := table.map AV.str) (by simp [table]) (by rw [List.length_map, table_length, List.length_replicate]; exact Nat.le_refl _) (by rfl)
  rw [setMany_all (by rw [List.length_map, table_length, List.length_replicate])] at c2
  refine storesW sz_85 (by rw [hcells]; exact c1) ?_
  have s2 : Stays H H2 := fun k all pre hk => c3 _ _ _ (by have := F.lt hk; omega) (a2 _ _ _ hk)
  rw [wrap_i64 (by omega) (by omega), condW_bool]
  refine ⟨fun h => ?_, fun h => ?_⟩
  · have h : op < 53 := of_decide_eq_true h
    rw [ix_85, if_pos ⟨by omega, by omega⟩, oS, ld_9, loadCell_new E c2, Nat.zero_add, Nat.mul_one, table_get (by omega), oS]
    exact ⟨rfl, s2⟩
  · have h : ¬ op < 53 := of_decide_eq_false h
    rw [nm_none (by omega)]
    exact ⟨rfl, s2⟩

theorem nameR_ok {op : Int} (h0 : 0 ≤ op) (h1 : op ≤ 255) {H : AHeap} (F : Fine H) : FnX Try.prog E w0 18 [.int .u8 op] H fun v H' => v = .str (nm op.toNat) ∧ Stays H H' := by
  refine V18_ok ?_
  rw [V18_is, o2S]
  obtain ⟨a1, a2, a3, F1⟩ := F.newCells (table.map AV.str)
  rw [wrap_i64 (by omega) (by omega), condW_bool]
  refine ⟨fun h => ?_, fun h => ?_⟩
  · have h : op ≥ 53 := of_decide_eq_true h
    rw [nm_none (by omega)]
    exact ⟨rfl, a2⟩
  · have h : ¬ op ≥ 53 := of_decide_eq_false h
    rw [ix_52, if_pos ⟨by omega, by omega⟩, oS, ld_9, loadCell_new E a1, Nat.zero_add, Nat.mul_one, table_get (by omega), oS]
    exact ⟨rfl, a2⟩

def textOf (bs : List Int) : List UInt8 := bs.map fun n => UInt8.ofNat n.toNat
theorem mapM_bytes : ∀ bs : List Int, (bys bs).mapM Am.byteOf = some (textOf bs)
  | [] => rfl
  | b :: bs => by
    have := mapM_bytes bs
    simp only [bys, textOf, List.map_cons, List.mapM_cons] at this ⊢
    rw [this]
    rfl
theorem cv0_27_9 (H : AHeap) : (convA Try.prog E H 27 9 .nilSlc).map (·.1) = some (.str []) := by kernel_rfl
theorem cv_27_9 (H : AHeap) (o : Am.Id) (i len cap : Nat) (ex : Bool) (sz : Nat) : (convA Try.prog E H 27 9 (.slc o i len cap ex sz)).map (·.1) = (rangeOr E H o i len).bind fun cs => (cs.mapM Am.byteOf).map .str := by
  have h : convA Try.prog E H 27 9 (.slc o i len cap ex sz) = match rangeOr E H o i len with
        | some cs => (cs.mapM Am.byteOf).map fun bs => (.str bs, H)
        | none => none := by kernel_rfl
  rw [h]
  cases rangeOr E H o i len with
  | none => rfl
  | some cs =>
    simp only [Option.bind_some]
    cases List.mapM Am.byteOf cs <;> rfl
theorem Bs.text {H : AHeap} {v : AV} {bs : List Int} {k : Nat} (h : Bs H v bs k) : (convA Try.prog E H 27 9 v).map (·.1) = some (.str (textOf bs)) := by
  rcases h with ⟨rfl, rfl⟩ | ⟨cap, ex, all, pre, rfl, g, t, c⟩
  · exact cv0_27_9 _
  · have hl := congrArg List.length t
    rw [List.length_take, bys_length] at hl
    rw [cv_27_9]
    unfold rangeOr
    split
    · rename_i hz
      rw [List.length_eq_zero_iff.1 hz]; rfl
    · rw [loadRange_new E g, if_pos (by omega), List.drop_zero, t, Option.bind_some, mapM_bytes]
      rfl
end Go.Proofs.Ytcboaonbfgjmgaa.op
