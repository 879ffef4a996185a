/- In one sentence: the program's YearsOfMultiple and the reference's YearsOfMultiple return the same for all arguments, leave them as they were, and share no memory. Conditions: none. -/
import Derived.Test.YtbdgeknaddaekaaLBase
import Derived.Test.YtbdgeknaddaekaaLEqint
import Derived.Test.YtbdgeknaddaekaaLLaws
import Derived.Test.YtbdgeknaddaekaaLOfmultiple
import Derived.Test.YtbdgeknaddaekaaP3
namespace Go.Proofs.Ytbdgeknaddaekaa.Pure
open Go.RowKit Go.Proofs.Ytbdgeknaddaekaa.P Go.Proofs.YtbdgeknaddaekaaW.PrintWords Go.Proofs.YtbdgeknaddaekaaW.PrintLast Go.Proofs.YtbdgeknaddaekaaW.PrintMore
set_option linter.unusedVariables false
set_option linter.unusedSimpArgs false

theorem FnExactYearsOfMultiple : laws_FnExactYearsOfMultiple.Pure := by
  intro l0 a1 a2 a3 h1 h2 h3 w1 w2 w3
  apply Ev.rounds
  by_cases hb : (l0.length : Int) > 1048576
  · exact Ev.if_pos hb (Ev.now _)
  · have hl : l0.length ≤ 1048576 := by omega
    have hs := specOM_f l0 a1 a2 a3
    have hi := implOM_f l0 a1 a2 a3
    generalize omOf l0 a1 a2 a3 = r at hs hi
    refine Ev.if_neg hb (Ev.bind (toInt_f l0 hl) (Ev.bind hs (Ev.bind (toInt_f l0 hl) (Ev.bind hi (Ev.if_pos rfl ?_)))))
    exact Ev.step (fun k => by simp only [laws_FnExactYearsOfMultiple.j0]; rfl) (Ev.if_neg (by simp) (Ev.bind (toInt_f l0 hl) (Ev.bind (eq_self l0 (by omega)) (Ev.if_pos rfl (Ev.now _)))))

end Go.Proofs.Ytbdgeknaddaekaa.Pure
