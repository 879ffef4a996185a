/- In one sentence: the program's LongestWithout and the reference's LongestWithout return the same for all arguments, leave them as they were, and share no memory. Conditions: none. -/
import Derived.Test.YthhbkmpipmckkaaLBase
import Derived.Test.YthhbkmpipmckkaaLKindlong
import Derived.Test.YthhbkmpipmckkaaP4
namespace Go.Proofs.Ythhbkmpipmckkaa.Pure
open Go.RowKit Go.Proofs.Ythhbkmpipmckkaa.P Go.Proofs.YthhbkmpipmckkaaW.PrintWords Go.Proofs.YthhbkmpipmckkaaW.PrintLast Go.Proofs.YthhbkmpipmckkaaW.PrintMore
set_option linter.unusedVariables false
set_option linter.unusedSimpArgs false

theorem FnExactLongestWithout : laws_FnExactLongestWithout.Pure := by
  intro a0 w0
  apply Ev.rounds
  rcases Classical.em ((a0.size : Int) > 1048576) with hb | hb
  · exact Ev.if_pos hb (Ev.now _)
  obtain ⟨r, hs, hi⟩ := longK_both a0
  refine Ev.if_neg hb (Ev.bind hs (Ev.bind hi ?_))
  exact Ev.if_pos rfl (Ev.if_pos rfl (Ev.if_neg (by simp) (Ev.now _)))

end Go.Proofs.Ythhbkmpipmckkaa.Pure
