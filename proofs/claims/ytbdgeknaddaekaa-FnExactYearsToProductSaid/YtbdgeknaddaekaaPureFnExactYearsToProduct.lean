/- In one sentence: the program's YearsToProduct and the reference's YearsToProduct return the same for all arguments, leave them as they were, and share no memory. Conditions: none. -/
import Derived.Test.YtbdgeknaddaekaaLBase
import Derived.Test.YtbdgeknaddaekaaLEqint
import Derived.Test.YtbdgeknaddaekaaLLaws
import Derived.Test.YtbdgeknaddaekaaLToproduct
import Derived.Test.YtbdgeknaddaekaaP6
namespace Go.Proofs.Ytbdgeknaddaekaa.Pure
open Go.RowKit Go.Proofs.Ytbdgeknaddaekaa.P Go.Proofs.YtbdgeknaddaekaaW.PrintWords Go.Proofs.YtbdgeknaddaekaaW.PrintLast Go.Proofs.YtbdgeknaddaekaaW.PrintMore
set_option linter.unusedVariables false
set_option linter.unusedSimpArgs false

theorem FnExactYearsToProduct : laws_FnExactYearsToProduct.Pure := by
  intro l0 a1 h1 h2 h3 w1
  apply Ev.rounds
  by_cases hb : (l0.length : Int) > 1048576
  · exact Ev.if_pos hb (Ev.now _)
  · have hl : l0.length ≤ 1048576 := by omega
    have hs := specTP_f l0 a1
    have hi := implTP_f l0 a1
    generalize tpOf l0 a1 = r at hs hi
    refine Ev.if_neg hb (Ev.bind (toInt_f l0 hl) (Ev.bind hs (Ev.bind (toInt_f l0 hl) (Ev.bind hi (Ev.if_pos rfl ?_)))))
    exact Ev.step (fun k => by simp only [laws_FnExactYearsToProduct.j0]; rfl) (Ev.if_neg (by simp) (Ev.bind (toInt_f l0 hl) (Ev.bind (eq_self l0 (by omega)) (Ev.if_pos rfl (Ev.now _)))))

end Go.Proofs.Ytbdgeknaddaekaa.Pure
