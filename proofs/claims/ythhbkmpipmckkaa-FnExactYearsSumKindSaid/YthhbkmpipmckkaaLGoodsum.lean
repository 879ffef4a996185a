import Derived.Test.YthhbkmpipmckkaaLAges
import Derived.Test.YthhbkmpipmckkaaLSum
namespace Go.Proofs.Ythhbkmpipmckkaa.P
open Go.RowKit Go.Proofs.YthhbkmpipmckkaaW.PrintWords Go.Proofs.YthhbkmpipmckkaaW.PrintLast Go.Proofs.YthhbkmpipmckkaaW.PrintMore
set_option linter.unusedVariables false
set_option linter.unusedSimpArgs false

theorem good_sum {l : List Int} (hg : goodB l = true) : sumW l 0 = l.sum ∧ 0 ≤ l.sum ∧ l.sum ≤ 960 := by
  have hl := good_len hg
  have key : ∀ m : List Int, (∀ x ∈ m, 0 ≤ x ∧ x ≤ 120) → 0 ≤ m.sum ∧ m.sum ≤ 120 * (m.length : Int) := by
    intro m
    induction m with
    | nil => intro _; simp
    | cons x xs ih =>
      intro h
      have hx := h x (by simp)
      have := ih (fun y hy => h y (by simp [hy]))
      simp only [List.sum_cons, List.length_cons]
      omega
  have hs := key l (fun x hx => good_mem hg hx)
  refine ⟨?_, hs.1, by omega⟩
  have := sumW_eq l 0 (fun x hx => by have := good_mem hg hx; omega) (by omega) (by omega)
  simpa using this

end Go.Proofs.Ythhbkmpipmckkaa.P
