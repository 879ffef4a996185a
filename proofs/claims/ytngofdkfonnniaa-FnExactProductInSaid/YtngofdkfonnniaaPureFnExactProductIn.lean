/- In one sentence: the program's ProductIn and the reference's ProductIn return the same for all arguments, leave them as they were, and share no memory. Conditions: none. -/
import Derived.Test.YtngofdkfonnniaaLBase
import Derived.Test.YtngofdkfonnniaaLEqint
import Derived.Test.YtngofdkfonnniaaLLaws
import Derived.Test.YtngofdkfonnniaaLProductin
import Derived.Test.YtngofdkfonnniaaP11
namespace Go.Proofs.Ytngofdkfonnniaa.Pure
open Go.RowKit Go.Proofs.Ytngofdkfonnniaa.P Go.Proofs.YtngofdkfonnniaaW.PrintWords Go.Proofs.YtngofdkfonnniaaW.PrintLast Go.Proofs.YtngofdkfonnniaaW.PrintMore
set_option linter.unusedVariables false
set_option linter.unusedSimpArgs false

theorem FnExactProductIn : laws_FnExactProductIn.Pure := by
  intro l0 a1 h1 h2 h3 w1
  apply Ev.rounds
  by_cases hb : (l0.length : Int) > 1048576
  · exact Ev.if_pos hb (Ev.now _)
  · have hl : l0.length ≤ 1048576 := by omega
    have hs := specPI_f l0 a1
    have hi := implPI_f l0 a1
    generalize piOf l0 a1 = r at hs hi
    refine Ev.if_neg hb (Ev.bind (toInt_f l0 hl) (Ev.bind hs (Ev.bind (toInt_f l0 hl) (Ev.bind hi (Ev.if_pos rfl ?_)))))
    exact Ev.step (fun k => by simp only [laws_FnExactProductIn.j0]; rfl) (Ev.if_neg (by simp) (Ev.bind (toInt_f l0 hl) (Ev.bind (eq_self l0 (by omega)) (Ev.if_pos rfl (Ev.now _)))))

end Go.Proofs.Ytngofdkfonnniaa.Pure
