/-
  OpsWrites: any instruction's size, bytes and name are the document's, it stays, and what is answered is the caller's; whatever the input.
-/
import Derived.Test.YtcboaonbfgjmgaaRows
import Derived.Test.YtcboaonbfgjmgaaOl
import Derived.Test.YtcboaonbfgjmgaaOm
open Go.Proofs Go Go.Am
namespace Go.Proofs.Ytcboaonbfgjmgaa.opsWrites
open Go.Proofs.Ytcboaonbfgjmgaa.op
open Go.ChangeShapes Go.WideShapes Go.ChangeAt Go.RowKit
set_option linter.unusedVariables false
set_option linter.unusedSimpArgs false
set_option maxRecDepth 100000

theorem walk {W : World} {cs : Array Value} (h : ∃ y : In, cs.toList.map old1 = y.cells ∧ y.Ok ∧ (∀ H', ArmsAt (envOf W) All H' y.av y.arms) ∧ Am.scalar y.av = true) : Calls Try.prog 3 #[.agg cs] W fun e w => e = .returned (.bool true) ∧ Kept W w := by
  obtain ⟨y, e, ho, ha, hs⟩ := h
  refine calls_law (FnX.toW ?_)
  show FnX Try.prog (envOf W) W 3 [.agg (cs.toList.map old1)] AHeap.empty _
  rw [e]
  exact writes_ok ho ha hs

theorem lifted (os : Os) (started : os.Started) (H : Type) (enc : TypeId × Value → H) :
    ReturnsInHanded {} Try.checked os 3 .any (Rows.opsWritesSpec.pre6 enc Try.prog Try.f3 Rows.opsWritesRow.domain false) (Rows.opsWritesSpec.post enc Try.prog Try.f3 false true false false) := by
  refine returnsInHanded_of_change_sized (C := Try.checked) op.own started (by kernel_rfl) Try.func3
    (ChangeSpec.witness6 (enc := enc) (C := Try.checked) false ⟨#[], #[.agg #[.int .u8 0, .int .i64 0, .int .i64 0, .slice none 0 0]], []⟩ 8 (by kernel_rfl) (by kernel_rfl) (by kernel_rfl) (by kernel_rfl)) ?_
  intro W base args ds gs before hval0 hW hcnd hsz _
  have hW' := hW
  obtain ⟨p, q, hA0, hV, rfl, hfz, hnd⟩ := hW
  have hA : DataW.TrodAll enc Try.prog W 0 (fun _ => true) true Try.f3.params.toList args.toList ds p := hA0
  rw [Try.params3] at hA
  obtain ⟨v0, d0, rfl, rfl, h0⟩ := trodAll_one hA
  obtain ⟨cs, rfl, _⟩ := okWide_struct Try.underlying24 (hval0 0 24 v0 (by kernel_rfl) rfl)
  obtain ⟨n, hn⟩ := h0
  have k1 := instr_cells (W := W) hn (fun n hn => by
    have := List.all_eq_true.1 hsz n (DataW.weights_mem_each (j := 0) (t := 24) (d := d0) (by kernel_rfl) rfl n hn)
    simpa using this)
  refine (walk k1).mono fun e W' ⟨he, hg⟩ => ?_
  subst he
  exact ⟨_, rfl, post_of_law (b := 4) hW' rfl laid (of_decide_eq_true (by kernel_rfl)) Try.underlying4 (by kernel_rfl) rfl rfl rfl hg⟩

theorem over : Rows.opsWritesRow.holds Try.pinned (OpenSpec.ofChange Rows.opsWritesSpec) :=
  OpenClaim.holds_of_wide 3 Try.f3 rfl rfl rfl rfl rfl rfl rfl ⟨rfl, rfl, rfl, rfl, rfl⟩ rfl rfl rfl rfl rfl (by kernel_rfl) Try.func3 (by kernel_rfl)
    (of_decide_eq_true (by kernel_rfl)) (by unfold Func.isWrapper; first | (rw [if_pos (by decide +kernel)]; kernel_rfl) | (rw [if_neg (by decide +kernel)]; exact ⟨rfl, rfl⟩))
    (fun os started H enc _ => lifted os started H enc)

theorem proved : Rows.OpsWritesSaid := over
end Go.Proofs.Ytcboaonbfgjmgaa.opsWrites
