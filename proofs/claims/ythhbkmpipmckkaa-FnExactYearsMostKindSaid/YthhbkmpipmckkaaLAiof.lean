import Derived.Test.YthhbkmpipmckkaaLAges
import Derived.Test.YthhbkmpipmckkaaLBase
import Derived.Test.YthhbkmpipmckkaaLFit
import Derived.Test.YthhbkmpipmckkaaLInyears
import Derived.Test.YthhbkmpipmckkaaP9
namespace Go.Proofs.Ythhbkmpipmckkaa.P
open Go.RowKit Go.Proofs.YthhbkmpipmckkaaW.PrintWords Go.Proofs.YthhbkmpipmckkaaW.PrintLast Go.Proofs.YthhbkmpipmckkaaW.PrintMore
set_option linter.unusedVariables false
set_option linter.unusedSimpArgs false

/-! ### ages in a year, as the program tells them -/
def aiOf (l : List Int) (y : Int) : List Int × Bool := if fitB l y = true then (inY l y, true) else ([], false)
theorem implAI_f (l : List Int) (y : Int) : Ev (fun k => impl_AgesIn.f k l y) (aiOf l y) := by
  refine Ev.congr (fun k => by unfold impl_AgesIn.f; rfl) (Ev.got (areAges_f l) ?_)
  cases hg : goodB l with
  | true =>
    have := good_len hg
    refine Ev.if_pos rfl (Ev.got (isFit_f hg y) ?_)
    cases hf : fitB l y with
    | true => exact Ev.if_pos rfl (Ev.bind (inYears_f l y (by omega)) (Ev.same (Ev.now _) (by unfold aiOf; rw [hf]; rfl)))
    | false => exact Ev.if_neg (by simp) (Ev.same (Ev.now _) (by unfold aiOf; rw [hf]; rfl))
  | false =>
    have hf : fitB l y = false := by unfold fitB; rw [hg]; rfl
    exact Ev.if_neg (by simp) (Ev.same (Ev.now _) (by unfold aiOf; rw [hf]; rfl))
theorem aiOf_length (l : List Int) (y : Int) : (aiOf l y).1.length ≤ 8 := by
  unfold aiOf
  split
  · rename_i h; have := good_len (fit_good h).1; simp [inY_length]; omega
  · simp

end Go.Proofs.Ythhbkmpipmckkaa.P
