/- In one sentence: the program's AreAges and the reference's AreAges return the same for all arguments, leave them as they were, and share no memory. Conditions: none. -/
import Derived.Test.YtngofdkfonnniaaLAges
import Derived.Test.YtngofdkfonnniaaLBase
import Derived.Test.YtngofdkfonnniaaLEqint
import Derived.Test.YtngofdkfonnniaaLLaws
import Derived.Test.YtngofdkfonnniaaP1
namespace Go.Proofs.Ytngofdkfonnniaa.Pure
open Go.RowKit Go.Proofs.Ytngofdkfonnniaa.P Go.Proofs.YtngofdkfonnniaaW.PrintWords Go.Proofs.YtngofdkfonnniaaW.PrintLast Go.Proofs.YtngofdkfonnniaaW.PrintMore
set_option linter.unusedVariables false
set_option linter.unusedSimpArgs false

theorem FnExactAreAges : laws_FnExactAreAges.Pure := by
  intro l0  h1 h2 h3 
  apply Ev.rounds
  by_cases hb : (l0.length : Int) > 1048576
  · exact Ev.if_pos hb (Ev.now _)
  · have hl : l0.length ≤ 1048576 := by omega
    refine Ev.if_neg hb (Ev.bind (toInt_f l0 hl) (Ev.bind (g := fun k => spec_AreAges.f k l0) (a := goodB l0) ?_ (Ev.bind (toInt_f l0 hl) (Ev.got (areAges_f l0) (Ev.if_neg (by simp) (Ev.bind (toInt_f l0 hl) (Ev.bind (eq_self l0 (by omega)) (Ev.if_pos rfl (Ev.now _)))))))))
    exact Ev.bind (agGood_f l0) (Ev.now _)

end Go.Proofs.Ytngofdkfonnniaa.Pure
