import Derived.Test.YthhbkmpipmckkaaLAges
import Derived.Test.YthhbkmpipmckkaaLBase
import Derived.Test.YthhbkmpipmckkaaLIn
import Derived.Test.YthhbkmpipmckkaaLRange
import Derived.Test.YthhbkmpipmckkaaP9
namespace Go.Proofs.Ythhbkmpipmckkaa.P
open Go.RowKit Go.Proofs.YthhbkmpipmckkaaW.PrintWords Go.Proofs.YthhbkmpipmckkaaW.PrintLast Go.Proofs.YthhbkmpipmckkaaW.PrintMore
set_option linter.unusedVariables false
set_option linter.unusedSimpArgs false

def fitB (l : List Int) (y : Int) : Bool := goodB l && decide (loY l ≤ y ∧ y ≤ hiY l)
theorem fit_good {l : List Int} {y : Int} (h : fitB l y = true) : goodB l = true ∧ loY l ≤ y ∧ y ≤ hiY l := by
  unfold fitB at h
  simpa using h
theorem agFit_f (l : List Int) (y : Int) : Ev (fun k => spec_agFit.f k l y) (fitB l y) := by
  refine Ev.congr (fun k => by unfold spec_agFit.f; rfl) (Ev.bind (agGood_f l) ?_)
  cases hg : goodB l with
  | true =>
    refine Ev.if_pos rfl (Ev.bind (agRange_f hg) (Ev.got (l1In_f y _ _) (Ev.same (Ev.now _) ?_)))
    unfold fitB; rw [hg]; rfl
  | false => exact Ev.if_neg (by simp) (Ev.same (Ev.now _) (by unfold fitB; rw [hg]; rfl))
theorem isFit_f {l : List Int} (hg : goodB l = true) (y : Int) : impl_isFit.f l y = some (fitB l y) := by
  unfold impl_isFit.f
  rw [fitYears_f hg]
  simp only [Option.bind_some, between_f]
  unfold fitB; rw [hg]; rfl

end Go.Proofs.Ythhbkmpipmckkaa.P
