/-
  OpsTakes: what an instruction takes and puts is the document's answer, or the error is; whatever the instruction and the module.
-/
import Derived.Test.YtcboaonbfgjmgaaZbg
section
open Go.Proofs Go Go.Am Go.Op Go.Am.Old
namespace Go.Proofs.Ytcboaonbfgjmgaa.opsTakes
open Go.Proofs.Ytcboaonbfgjmgaa.d
open Go.ChangeShapes Go.WideShapes Go.ChangeAt Go.RowKit
set_option linter.unusedVariables false
set_option linter.unusedSimpArgs false
set_option maxRecDepth 100000
theorem walk {W : World} {v0 v1 : Value} (h0 : ∃ y, In.Ok y ∧ ∀ R, Rp (envOf W) R (inD y) (oldV v0)) (h1 : ∃ m, Mo.Ok m ∧ ∀ R, Rp (envOf W) R (moD m) (oldV v1)) : Calls Try.prog 9 #[v0, v1] W fun e w => e = .returned (.bool true) ∧ Kept W w := by
  obtain ⟨y, hy, h0⟩ := h0
  obtain ⟨m, hm, h1⟩ := h1
  exact calls_lawD (takes_true hy hm) (rpL_cons (h0 _) (rpL_cons (h1 _) rpL_nil))
theorem own : ownKnob Try.prog.godebug = none := by kernel_rfl
theorem laid : laidOutB Try.prog = true := by kernel_rfl
theorem lifted (os : Os) (started : os.Started) (H : Type) (enc : TypeId × Value → H) :
    ReturnsInHanded {} Try.checked os 9 .any (Rows.opsTakesSpec.pre6 enc Try.prog Try.f9 Rows.opsTakesRow.domain false) (Rows.opsTakesSpec.post enc Try.prog Try.f9 false true false false) := by
  refine returnsInHanded_of_change_sized (C := Try.checked) own started (by kernel_rfl) Try.func9
    (ChangeSpec.witness6 (enc := enc) (C := Try.checked) false ⟨#[], #[.agg #[.int .u8 0, .int .i64 0, .int .i64 0, .slice none 0 0], .agg #[.slice none 0 0, .slice none 0 0, .slice none 0 0]], []⟩ 8 (by kernel_rfl) (by kernel_rfl) (by kernel_rfl) (by kernel_rfl)) ?_
  intro W base args ds gs before hval0 hW hcnd hsz _
  have hW' := hW
  obtain ⟨p, q, hA0, hV, rfl, hfz, hnd⟩ := hW
  have hA : DataW.TrodAll enc Try.prog W 0 (fun _ => true) true Try.f9.params.toList args.toList ds p := hA0
  rw [Try.params9] at hA
  obtain ⟨v0, v1, d0, d1, p0, p1, rfl, rfl, rfl, h0, h1⟩ := trodAll_two hA
  have w0 := fun n hn => of_decide_eq_true (List.all_eq_true.1 hsz n (DataW.weights_mem_each (j := 0) (t := 24) (d := d0) (by kernel_rfl) rfl n hn))
  have w1 := fun n hn => of_decide_eq_true (List.all_eq_true.1 hsz n (DataW.weights_mem_each (j := 1) (t := 55) (d := d1) (by kernel_rfl) rfl n hn))
  have a0 := rd_in.argA (hval0 0 24 v0 (by kernel_rfl) rfl) Try.underlying24 h0 w0
  have a1 := rd_mo.argA (hval0 1 55 v1 (by kernel_rfl) rfl) Try.underlying55 h1 w1
  refine (walk a0 a1).mono fun e W' ⟨he, hg⟩ => ?_
  subst he
  exact ⟨_, rfl, post_of_law (b := 4) hW' rfl laid (of_decide_eq_true (by kernel_rfl)) Try.underlying4 (by kernel_rfl) rfl rfl rfl hg⟩
theorem over : Rows.opsTakesRow.holds Try.pinned (OpenSpec.ofChange Rows.opsTakesSpec) :=
  OpenClaim.holds_of_wide 9 Try.f9 rfl rfl rfl rfl rfl rfl rfl ⟨rfl, rfl, rfl, rfl, rfl⟩ rfl rfl rfl rfl rfl (by kernel_rfl) Try.func9 (by kernel_rfl)
    (of_decide_eq_true (by kernel_rfl)) (by unfold Func.isWrapper; first | (rw [if_pos (by decide +kernel)]; kernel_rfl) | (rw [if_neg (by decide +kernel)]; exact ⟨rfl, rfl⟩))
    (fun os started H enc _ => lifted os started H enc)
theorem proved : Rows.OpsTakesSaid := over
end Go.Proofs.Ytcboaonbfgjmgaa.opsTakes
end
