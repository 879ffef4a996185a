/- In one sentence: the program's KindsOf and the reference's KindsOf return the same for all arguments, leave them as they were, and share no memory. Conditions: none. -/
import Derived.Test.YthhbkmpipmckkaaLBase
import Derived.Test.YthhbkmpipmckkaaLKindsof
import Derived.Test.YthhbkmpipmckkaaP2
namespace Go.Proofs.Ythhbkmpipmckkaa.Pure
open Go.RowKit Go.Proofs.Ythhbkmpipmckkaa.P Go.Proofs.YthhbkmpipmckkaaW.PrintWords Go.Proofs.YthhbkmpipmckkaaW.PrintLast Go.Proofs.YthhbkmpipmckkaaW.PrintMore
set_option linter.unusedVariables false
set_option linter.unusedSimpArgs false

theorem FnExactKindsOf : laws_FnExactKindsOf.Pure := by
  intro a0 w0
  apply Ev.rounds
  obtain ⟨r, hs, hi⟩ := kindsOf_both a0
  refine (Ev.bind hs (Ev.bind hi ?_))
  exact Ev.if_pos rfl (Ev.if_neg (by simp) (Ev.now _))

end Go.Proofs.Ythhbkmpipmckkaa.Pure
