/-
  OpsForth: what is read at any place of any bytes is written again as those bytes, or is told to be none; whatever the input.
-/
import Derived.Test.YtcboaonbfgjmgaaRows
import Derived.Test.YtcboaonbfgjmgaaPq
import Derived.Test.YtcboaonbfgjmgaaPz
open Go.Proofs Go Go.Am
namespace Go.Proofs.Ytcboaonbfgjmgaa.opsForth
open Go.Proofs.Ytcboaonbfgjmgaa.op
open Go.ChangeShapes Go.WideShapes Go.ChangeAt Go.RowKit
set_option linter.unusedVariables false
set_option linter.unusedSimpArgs false
set_option maxRecDepth 100000

theorem code_of {E : Env} {v : AV} (h : (v = .nilSlc) ∨ ∃ (b i len cap : Nat) (zs : List Int), v = .slc (.old b) i len cap true 1 ∧ len ≤ cap ∧ cap ≤ maxLen ∧ zs.length = len ∧ (∀ z ∈ zs, (Lit.int .u8 z).wf = true) ∧
      (len = 0 ∨ ∃ cs, E b = some cs ∧ i + len ≤ cs.length ∧ (cs.drop i).take len = zs.map fun z => .int .u8 z)) : (∃ bs, OldCode E v bs) ∨ Much v := by
  rcases h with rfl | ⟨b, i, len, cap, zs, rfl, hl, hm, rfl, hw, h⟩
  · exact .inl ⟨[], by decide, (fun b hb => by cases hb), .inl ⟨rfl, rfl⟩⟩
  · by_cases hs : zs.length > 65536
    · exact .inr ⟨_, _, _, _, _, _, rfl, hs⟩
    · refine .inl ⟨zs, by omega, fun z hz => wf_u8 (hw z hz), .inr ⟨b, i, cap, true, rfl, hl, ?_⟩⟩
      rcases h with h | h
      · exact .inl (List.length_eq_zero_iff.1 h)
      · exact .inr h

theorem walk {W : World} {v0 : Value} {n : Int} (h : (∃ bs, OldCode (envOf W) (oldV v0) bs) ∨ Much (oldV v0)) : Calls Try.prog 5 #[v0, .int .i64 n] W fun e w => e = .returned (.bool true) ∧ Kept W w := by
  rcases h with ⟨bs, h⟩ | h
  · exact calls_law (forth_law h)
  · exact calls_law (forth_much h)

theorem lifted (os : Os) (started : os.Started) (H : Type) (enc : TypeId × Value → H) :
    ReturnsInHanded {} Try.checked os 5 .any (Rows.opsForthSpec.pre6 enc Try.prog Try.f5 Rows.opsForthRow.domain false) (Rows.opsForthSpec.post enc Try.prog Try.f5 false true false false) := by
  refine returnsInHanded_of_change_sized (C := Try.checked) op.own started (by kernel_rfl) Try.func5
    (ChangeSpec.witness6 (enc := enc) (C := Try.checked) false ⟨#[], #[.slice none 0 0, .int .i64 0], []⟩ 8 (by kernel_rfl) (by kernel_rfl) (by kernel_rfl) (by kernel_rfl)) ?_
  intro W base args ds gs before hval0 hW hcnd hsz _
  have hW' := hW
  obtain ⟨p, q, hA0, hV, rfl, hfz, hnd⟩ := hW
  have hA : DataW.TrodAll enc Try.prog W 0 (fun _ => true) true Try.f5.params.toList args.toList ds p := hA0
  rw [Try.params5] at hA
  obtain ⟨v0, v1, d0, d1, p0, p1, rfl, rfl, rfl, h0, h1⟩ := trodAll_two hA
  obtain ⟨c, rfl, hc⟩ := open_int Try.underlying3 (hval0 1 3 v1 (by kernel_rfl) rfl) h1
  have k0 := code_of (old_ints Try.underlying27 Try.underlying5 (by kernel_rfl) (hval0 0 27 v0 (by kernel_rfl) rfl) h0)
  refine (walk k0).mono fun e W' ⟨he, hg⟩ => ?_
  subst he
  exact ⟨_, rfl, post_of_law (b := 4) hW' rfl laid (of_decide_eq_true (by kernel_rfl)) Try.underlying4 (by kernel_rfl) rfl rfl rfl hg⟩

theorem over : Rows.opsForthRow.holds Try.pinned (OpenSpec.ofChange Rows.opsForthSpec) :=
  OpenClaim.holds_of_wide 5 Try.f5 rfl rfl rfl rfl rfl rfl rfl ⟨rfl, rfl, rfl, rfl, rfl⟩ rfl rfl rfl rfl rfl (by kernel_rfl) Try.func5 (by kernel_rfl)
    (of_decide_eq_true (by kernel_rfl)) (by unfold Func.isWrapper; first | (rw [if_pos (by decide +kernel)]; kernel_rfl) | (rw [if_neg (by decide +kernel)]; exact ⟨rfl, rfl⟩))
    (fun os started H enc _ => lifted os started H enc)

theorem proved : Rows.OpsForthSaid := over
end Go.Proofs.Ytcboaonbfgjmgaa.opsForth
