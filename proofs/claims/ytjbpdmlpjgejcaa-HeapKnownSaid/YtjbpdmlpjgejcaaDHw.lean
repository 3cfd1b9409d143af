/-
  What the laws of the heap share.
-/
import Derived.Test.YtjbpdmlpjgejcaaDHt
import Derived.Test.YtjbpdmlpjgejcaaAm35
open Go.Proofs Go Go.Am
namespace Go.Proofs.Ytjbpdmlpjgejcaa.hp
open Go.Proofs.Ytjbpdmlpjgejcaa.vcs
set_option linter.unusedVariables false
set_option maxRecDepth 100000

variable {E : Env} {w0 : World}

theorem works_ok {H : AHeap} : FnX Try.prog E w0 10 [] H fun v H' => v = .bool true := by
  have h : (callFA Try.prog (fun _ => none) noOv 200 10 [] AHeap.empty).map (·.1) = some (.bool true) := by kernel_rfl
  cases hr : callFA Try.prog (fun _ => none) noOv 200 10 [] AHeap.empty with
  | none => rw [hr] at h; cases h
  | some r =>
    obtain ⟨v, H1⟩ := r
    rw [hr] at h
    simp only [Option.map_some, Option.some.injEq] at h
    subst h
    exact (fnX_pure vcs.mixed hr (fun ρ vs h => h) (fun ρ ρ' u h => by simpa only [rel] using h)).mono fun v H' e => e.1

theorem own : ownKnob Try.prog.godebug = none := by kernel_rfl
theorem laid : laidOutB Try.prog = true := by kernel_rfl

theorem words_of {v : Value} {W : World} (h : (oldV v = .nilSlc) ∨ ∃ (b i len cap : Nat) (zs : List Int), oldV v = .slc (.old b) i len cap true 1 ∧ len ≤ cap ∧ cap ≤ maxLen ∧ zs.length = len ∧ (∀ z ∈ zs, (Lit.int .u64 z).wf = true) ∧
      (len = 0 ∨ ∃ cs, envOf W b = some cs ∧ i + len ≤ cs.length ∧ (cs.drop i).take len = zs.map fun z => .int .u64 z)) : ∃ ws : List Int, Rd (envOf W) (oldV v) ws ∧ ws.length < 2 ^ 63 := by
  rcases h with h | ⟨b, i, len, cap, zs, h1, h2, h3, h4, h5, h6⟩
  · exact ⟨[], .inl ⟨h, rfl⟩, by simp⟩
  · refine ⟨zs, .inr ⟨b, i, cap, true, 1, by rw [h1, h4], ?_⟩, by unfold maxLen at h3; omega⟩
    rw [h4]
    exact h6
end Go.Proofs.Ytjbpdmlpjgejcaa.hp
