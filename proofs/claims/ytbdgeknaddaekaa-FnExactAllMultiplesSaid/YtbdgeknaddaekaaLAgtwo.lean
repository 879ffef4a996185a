import Derived.Test.YtbdgeknaddaekaaLBase
import Derived.Test.YtbdgeknaddaekaaLTwo
import Derived.Test.YtbdgeknaddaekaaLWho
import Derived.Test.YtbdgeknaddaekaaP1
namespace Go.Proofs.Ytbdgeknaddaekaa.P
open Go.RowKit Go.Proofs.YtbdgeknaddaekaaW.PrintWords Go.Proofs.YtbdgeknaddaekaaW.PrintLast Go.Proofs.YtbdgeknaddaekaaW.PrintMore
set_option linter.unusedVariables false
set_option linter.unusedSimpArgs false

theorem agTwo_f (l : List Int) (a b : Int) : Ev (fun k => spec_agTwo.f k l a b) (twoB l a b) := by
  refine Ev.congr (fun k => by unfold spec_agTwo.f; rfl) (Ev.bind (agWho_f l a) ?_)
  unfold twoB
  cases ha : whoB l a with
  | true =>
    refine Ev.if_pos rfl (Ev.bind (agWho_f l b) ?_)
    cases hb : whoB l b with
    | true => exact Ev.if_pos rfl (Ev.same (Ev.now _) (by simp))
    | false => exact Ev.if_neg (by simp) (Ev.same (Ev.now _) (by simp))
  | false => exact Ev.if_neg (by simp) (Ev.same (Ev.now _) (by simp))

end Go.Proofs.Ytbdgeknaddaekaa.P
