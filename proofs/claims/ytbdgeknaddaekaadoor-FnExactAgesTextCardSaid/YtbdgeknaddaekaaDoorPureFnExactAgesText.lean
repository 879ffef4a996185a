/- In one sentence: the program's AgesText and the reference's AgesText return the same for all arguments, leave them as they were, and share no memory. Conditions: none. -/
import Derived.Test.YtbdgeknaddaekaaDoorLAgestext
import Derived.Test.YtbdgeknaddaekaaDoorLBase
import Derived.Test.YtbdgeknaddaekaaDoorLEqint
import Derived.Test.YtbdgeknaddaekaaDoorLLaws
import Derived.Test.YtbdgeknaddaekaaDoorP2
namespace Go.Proofs.YtbdgeknaddaekaaDoor.Pure
open Go.RowKit Go.Proofs.YtbdgeknaddaekaaDoor.P Go.Proofs.YtbdgeknaddaekaaDoorW.PrintWords Go.Proofs.YtbdgeknaddaekaaDoorW.PrintLast Go.Proofs.YtbdgeknaddaekaaDoorW.PrintMore
set_option linter.unusedVariables false
set_option linter.unusedSimpArgs false

theorem FnExactAgesText : laws_FnExactAgesText.Pure := by
  intro l0  h1 h2 h3 
  apply Ev.rounds
  by_cases hb : (l0.length : Int) > 1048576
  · exact Ev.if_pos hb (Ev.now _)
  · have hl : l0.length ≤ 1048576 := by omega
    have hs := specAT_f l0
    have hi := implAT_f l0
    generalize atOf l0 = r at hs hi
    refine Ev.if_neg hb (Ev.bind (toInt_f l0 hl) (Ev.bind hs (Ev.bind (toInt_f l0 hl) (Ev.bind hi (Ev.if_pos rfl ?_)))))
    exact Ev.step (fun k => by simp only [laws_FnExactAgesText.j0]; rfl) (Ev.if_neg (by simp) (Ev.bind (toInt_f l0 hl) (Ev.bind (eq_self l0 (by omega)) (Ev.if_pos rfl (Ev.now _)))))

end Go.Proofs.YtbdgeknaddaekaaDoor.Pure
