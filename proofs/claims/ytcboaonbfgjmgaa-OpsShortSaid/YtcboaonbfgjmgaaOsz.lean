/-
  OpsShort: a beginning of an instruction is too short, and it is read back with a byte behind; whatever the input.
-/
import Derived.Test.YtcboaonbfgjmgaaRows
import Derived.Test.YtcboaonbfgjmgaaPz
open Go.Proofs Go Go.Am
namespace Go.Proofs.Ytcboaonbfgjmgaa.opsShort
open Go.Proofs.Ytcboaonbfgjmgaa.op
open Go.ChangeShapes Go.WideShapes Go.ChangeAt Go.RowKit
set_option linter.unusedVariables false
set_option linter.unusedSimpArgs false
set_option maxRecDepth 100000

theorem walk {W : World} {cs : Array Value} {c : Int} (hb : Byte c) (h : ∃ y : In, cs.toList.map old1 = y.cells ∧ y.Ok ∧ (∀ H', ArmsAt (envOf W) All H' y.av y.arms) ∧ Am.scalar y.av = true) : Calls Try.prog 4 #[.agg cs, .int .u8 c] W fun e w => e = .returned (.bool true) ∧ Kept W w := by
  obtain ⟨y, e, ho, ha, hs⟩ := h
  refine calls_law ?_
  show FnW Try.prog (envOf W) W 4 [.agg (cs.toList.map old1), .int .u8 c] AHeap.empty _
  rw [e]
  exact short_law hb ho ha hs

theorem lifted (os : Os) (started : os.Started) (H : Type) (enc : TypeId × Value → H) :
    ReturnsInHanded {} Try.checked os 4 .any (Rows.opsShortSpec.pre6 enc Try.prog Try.f4 Rows.opsShortRow.domain false) (Rows.opsShortSpec.post enc Try.prog Try.f4 false true false false) := by
  refine returnsInHanded_of_change_sized (C := Try.checked) op.own started (by kernel_rfl) Try.func4
    (ChangeSpec.witness6 (enc := enc) (C := Try.checked) false ⟨#[], #[.agg #[.int .u8 0, .int .i64 0, .int .i64 0, .slice none 0 0], .int .u8 0], []⟩ 8 (by kernel_rfl) (by kernel_rfl) (by kernel_rfl) (by kernel_rfl)) ?_
  intro W base args ds gs before hval0 hW hcnd hsz _
  have hW' := hW
  obtain ⟨p, q, hA0, hV, rfl, hfz, hnd⟩ := hW
  have hA : DataW.TrodAll enc Try.prog W 0 (fun _ => true) true Try.f4.params.toList args.toList ds p := hA0
  rw [Try.params4] at hA
  obtain ⟨v0, v1, d0, d1, p0, p1, rfl, rfl, rfl, h0, h1⟩ := trodAll_two hA
  obtain ⟨c, rfl, hc⟩ := open_int Try.underlying5 (hval0 1 5 v1 (by kernel_rfl) rfl) h1
  obtain ⟨cs, rfl, _⟩ := okWide_struct Try.underlying24 (hval0 0 24 v0 (by kernel_rfl) rfl)
  obtain ⟨n, hn⟩ := h0
  have k1 := instr_cells (W := W) hn (fun n hn => by
    have := List.all_eq_true.1 hsz n (DataW.weights_mem_each (j := 0) (t := 24) (d := d0) (by kernel_rfl) rfl n hn)
    simpa using this)
  refine (walk (wf_u8 hc.2.2) k1).mono fun e W' ⟨he, hg⟩ => ?_
  subst he
  exact ⟨_, rfl, post_of_law (b := 4) hW' rfl laid (of_decide_eq_true (by kernel_rfl)) Try.underlying4 (by kernel_rfl) rfl rfl rfl hg⟩

theorem over : Rows.opsShortRow.holds Try.pinned (OpenSpec.ofChange Rows.opsShortSpec) :=
  OpenClaim.holds_of_wide 4 Try.f4 rfl rfl rfl rfl rfl rfl rfl ⟨rfl, rfl, rfl, rfl, rfl⟩ rfl rfl rfl rfl rfl (by kernel_rfl) Try.func4 (by kernel_rfl)
    (of_decide_eq_true (by kernel_rfl)) (by unfold Func.isWrapper; first | (rw [if_pos (by decide +kernel)]; kernel_rfl) | (rw [if_neg (by decide +kernel)]; exact ⟨rfl, rfl⟩))
    (fun os started H enc _ => lifted os started H enc)

theorem proved : Rows.OpsShortSaid := over
end Go.Proofs.Ytcboaonbfgjmgaa.opsShort
