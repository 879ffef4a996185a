import Derived.Test.YtngofdkfonnniaaLAges
import Derived.Test.YtngofdkfonnniaaLBase
import Derived.Test.YtngofdkfonnniaaLGcd
import Derived.Test.YtngofdkfonnniaaLSum
import Derived.Test.YtngofdkfonnniaaP7
namespace Go.Proofs.Ytngofdkfonnniaa.P
open Go.RowKit Go.Proofs.YtngofdkfonnniaaW.PrintWords Go.Proofs.YtngofdkfonnniaaW.PrintLast Go.Proofs.YtngofdkfonnniaaW.PrintMore
set_option linter.unusedVariables false
set_option linter.unusedSimpArgs false

theorem good_sum {l : List Int} (hg : goodB l = true) : sumW l 0 = l.sum ∧ 0 ≤ l.sum ∧ l.sum ≤ 960 := by
  have hl := good_len hg
  have key : ∀ m : List Int, (∀ x ∈ m, 0 ≤ x ∧ x ≤ 120) → 0 ≤ m.sum ∧ m.sum ≤ 120 * (m.length : Int) := by
    intro m
    induction m with
    | nil => intro _; simp
    | cons x xs ih =>
      intro h
      have hx := h x (by simp)
      have := ih (fun y hy => h y (by simp [hy]))
      simp only [List.sum_cons, List.length_cons]
      omega
  have hs := key l (fun x hx => good_mem hg hx)
  refine ⟨?_, hs.1, by omega⟩
  have := sumW_eq l 0 (fun x hx => by have := good_mem hg hx; omega) (by omega) (by omega)
  simpa using this
def meanOf (l : List Int) : Int × Int × Bool := if goodB l = true then ((lowOf (sumW l 0) (l.length : Int)).1, (lowOf (sumW l 0) (l.length : Int)).2, true) else (0, 0, false)
theorem specMean_f (l : List Int) : Ev (fun k => spec_MeanAge.f k l) (meanOf l) := by
  refine Ev.congr (fun k => by unfold spec_MeanAge.f; rfl) (Ev.bind (agGood_f l) ?_)
  cases hg : goodB l with
  | true =>
    have hl := good_len hg
    obtain ⟨e, h0, h1⟩ := good_sum hg
    exact Ev.if_pos rfl (Ev.bind (agSum_f l (by omega)) (Ev.bind (agLow_f _ _ (by omega) (by omega)) (Ev.same (Ev.now _) (by unfold meanOf; rw [if_pos hg]))))
  | false => exact Ev.if_neg (by simp) (Ev.same (Ev.now _) (by unfold meanOf; rw [if_neg (by rw [hg]; simp)]))
theorem implMean_f (l : List Int) : Ev (fun k => impl_MeanAge.f k l) (meanOf l) := by
  refine Ev.congr (fun k => by unfold impl_MeanAge.f; rfl) (Ev.got (areAges_f l) ?_)
  cases hg : goodB l with
  | true =>
    have hl := good_len hg
    obtain ⟨e, h0, h1⟩ := good_sum hg
    exact Ev.if_pos rfl (Ev.bind (total_f l (by omega)) (Ev.bind (lowest_f _ _ (by omega) (by omega) (by omega) (by omega)) (Ev.same (Ev.now _) (by unfold meanOf; rw [if_pos hg]))))
  | false => exact Ev.if_neg (by simp) (Ev.same (Ev.now _) (by unfold meanOf; rw [if_neg (by rw [hg]; simp)]))

end Go.Proofs.Ytngofdkfonnniaa.P
