import Derived.Test.YtngofdkfonnniaaLAges
import Derived.Test.YtngofdkfonnniaaLBase
import Derived.Test.YtngofdkfonnniaaLRange
import Derived.Test.YtngofdkfonnniaaP7
import Derived.Test.YtngofdkfonnniaaP8
namespace Go.Proofs.Ytngofdkfonnniaa.P
open Go.RowKit Go.Proofs.YtngofdkfonnniaaW.PrintWords Go.Proofs.YtngofdkfonnniaaW.PrintLast Go.Proofs.YtngofdkfonnniaaW.PrintMore
set_option linter.unusedVariables false
set_option linter.unusedSimpArgs false

def yrOf (l : List Int) : Int × Int × Bool := if goodB l = true then (loY l, hiY l, true) else (0, 0, false)
theorem specYR_f (l : List Int) : Ev (fun k => spec_YearsRange.f k l) (yrOf l) := by
  refine Ev.congr (fun k => by unfold spec_YearsRange.f; rfl) (Ev.bind (agGood_f l) ?_)
  cases hg : goodB l with
  | true => exact Ev.if_pos rfl (Ev.bind (agRange_f hg) (Ev.same (Ev.now _) (by unfold yrOf; rw [if_pos hg])))
  | false => exact Ev.if_neg (by simp) (Ev.same (Ev.now _) (by unfold yrOf; rw [if_neg (by rw [hg]; simp)]))
theorem implYR_f (l : List Int) : impl_YearsRange.f l = some (yrOf l) := by
  unfold impl_YearsRange.f
  rw [areAges_f]
  simp only [Option.bind_some]
  cases hg : goodB l with
  | true => rw [if_pos rfl, fitYears_f hg]; unfold yrOf; rw [if_pos hg]; rfl
  | false => rw [if_neg (by simp)]; unfold yrOf; rw [if_neg (by rw [hg]; simp)]

end Go.Proofs.Ytngofdkfonnniaa.P
