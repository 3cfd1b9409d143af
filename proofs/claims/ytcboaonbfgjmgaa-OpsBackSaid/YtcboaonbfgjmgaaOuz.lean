/-
  OpsBack: instructions behind one another are read back, and where each begins; whatever the input.
-/
import Derived.Test.YtcboaonbfgjmgaaRows
import Derived.Test.YtcboaonbfgjmgaaPw
import Derived.Test.YtcboaonbfgjmgaaPz
open Go.Proofs Go Go.Am
namespace Go.Proofs.Ytcboaonbfgjmgaa.opsBack
open Go.Proofs.Ytcboaonbfgjmgaa.op
open Go.ChangeShapes Go.WideShapes Go.ChangeAt Go.RowKit
set_option linter.unusedVariables false
set_option linter.unusedSimpArgs false
set_option maxRecDepth 100000

theorem ins_of {H : Type} {enc : TypeId × Value → H} {W : World} {b0 : Nat} {r : Reach} {hd : Bool} {v : Value} {d : DataW H} {ps : List MemPlace} (hv : Value.okWide Try.prog W r b0 41 v) (h : DataW.Trod enc Try.prog W 0 (fun _ => true) hd 41 v d ps)
    (hw : ∀ n ∈ DataW.weights Try.prog 41 d, n ≤ reachBytes) : ∃ xs, InsOld (envOf W) (oldV v) xs := by
  obtain ⟨fuel, hn⟩ := h
  obtain ⟨a0, l0, c0, rfl⟩ := okWide_slice Try.underlying41 hv
  have s24 : Try.prog.cellsOf 24 = 4 := by kernel_rfl
  have b24 : Try.prog.bytesOf 24 = 48 := by kernel_rfl
  obtain ⟨c, e, h⟩ := slice_cells (sz := 4) Try.underlying41 s24 (by decide) hn
  have e : Value.slice a0 l0 c0 = c := by simpa [Value.cells] using e
  subst e
  show ∃ xs, InsOld (envOf W) (old1 (.slice a0 l0 c0)) xs
  rcases h with h | ⟨b, i, len, cap, m, els, h1, h2, h3, _, ⟨k, h4, h5⟩, h6⟩
  · exact ⟨[], by decide, (fun x hx => by cases hx), .inl ⟨h, rfl⟩⟩
  · have each : ∀ j, ∃ y : In, j < len → (y.Ok ∧ (∀ H', ArmsAt (envOf W) All H' y.av y.arms) ∧ Am.scalar y.av = true) ∧ ∃ all, envOf W b = some all ∧ (all.drop (i + j * 4)).take 4 = y.cells := by
      intro j
      by_cases hj : j < len
      · have hje : j < els.length := by omega
        obtain ⟨all, vs, g1, g2, g3⟩ := h6 j _ (List.getElem?_eq_getElem hje)
        obtain ⟨y, y1, y2, y3, y4⟩ := instr_cells g3 fun k hk => hw k (h3 _ (List.getElem_mem hje) k hk)
        exact ⟨y, fun _ => ⟨⟨y2, y3, y4⟩, all, g1, by rw [g2, y1]⟩⟩
      · exact ⟨⟨0, 0, 0, .nilSlc, []⟩, fun h => (hj h).elim⟩
    obtain ⟨f, hf⟩ := Classical.axiomOfChoice each
    have hk := hw k h4
    have hrb := reachBytes_lt
    rw [b24] at h5
    refine ⟨(List.range len).map f, by simp only [List.length_map, List.length_range]; omega, fun x hx => ?_, .inr ⟨b, i, cap, true, by rw [h1]; simp, fun j x hj => ?_⟩⟩
    · obtain ⟨j, hj, rfl⟩ := List.mem_map.1 hx
      exact (hf j (List.mem_range.1 hj)).1
    · have hjl : j < len := by have := (List.getElem?_eq_some_iff.1 hj).1; simpa using this
      rw [List.getElem?_map, List.getElem?_range hjl] at hj
      cases hj
      exact (hf j hjl).2

theorem walk {W : World} {v0 : Value} (h : ∃ xs, InsOld (envOf W) (oldV v0) xs) : Calls Try.prog 8 #[v0] W fun e w => e = .returned (.bool true) ∧ Kept W w := by
  obtain ⟨xs, h⟩ := h
  exact calls_law (back_law h)

theorem lifted (os : Os) (started : os.Started) (H : Type) (enc : TypeId × Value → H) :
    ReturnsInHanded {} Try.checked os 8 .any (Rows.opsBackSpec.pre6 enc Try.prog Try.f8 Rows.opsBackRow.domain false) (Rows.opsBackSpec.post enc Try.prog Try.f8 false true false false) := by
  refine returnsInHanded_of_change_sized (C := Try.checked) op.own started (by kernel_rfl) Try.func8
    (ChangeSpec.witness6 (enc := enc) (C := Try.checked) false ⟨#[], #[.slice none 0 0], []⟩ 8 (by kernel_rfl) (by kernel_rfl) (by kernel_rfl) (by kernel_rfl)) ?_
  intro W base args ds gs before hval0 hW hcnd hsz _
  have hW' := hW
  obtain ⟨p, q, hA0, hV, rfl, hfz, hnd⟩ := hW
  have hA : DataW.TrodAll enc Try.prog W 0 (fun _ => true) true Try.f8.params.toList args.toList ds p := hA0
  rw [Try.params8] at hA
  obtain ⟨v0, d0, rfl, rfl, h0⟩ := trodAll_one hA
  have k0 := ins_of (W := W) (hval0 0 41 v0 (by kernel_rfl) rfl) h0 (fun n hn => by
    have := List.all_eq_true.1 hsz n (DataW.weights_mem_each (j := 0) (t := 41) (d := d0) (by kernel_rfl) rfl n hn)
    simpa using this)
  refine (walk k0).mono fun e W' ⟨he, hg⟩ => ?_
  subst he
  exact ⟨_, rfl, post_of_law (b := 4) hW' rfl laid (of_decide_eq_true (by kernel_rfl)) Try.underlying4 (by kernel_rfl) rfl rfl rfl hg⟩

theorem over : Rows.opsBackRow.holds Try.pinned (OpenSpec.ofChange Rows.opsBackSpec) :=
  OpenClaim.holds_of_wide 8 Try.f8 rfl rfl rfl rfl rfl rfl rfl ⟨rfl, rfl, rfl, rfl, rfl⟩ rfl rfl rfl rfl rfl (by kernel_rfl) Try.func8 (by kernel_rfl)
    (of_decide_eq_true (by kernel_rfl)) (by unfold Func.isWrapper; first | (rw [if_pos (by decide +kernel)]; kernel_rfl) | (rw [if_neg (by decide +kernel)]; exact ⟨rfl, rfl⟩))
    (fun os started H enc _ => lifted os started H enc)

theorem proved : Rows.OpsBackSaid := over
end Go.Proofs.Ytcboaonbfgjmgaa.opsBack
