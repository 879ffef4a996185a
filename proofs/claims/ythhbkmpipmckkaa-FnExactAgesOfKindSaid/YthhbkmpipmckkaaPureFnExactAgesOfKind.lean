/- In one sentence: the program's AgesOfKind and the reference's AgesOfKind return the same for all arguments, leave them as they were, and share no memory. Conditions: none. -/
import Derived.Test.YthhbkmpipmckkaaLBase
import Derived.Test.YthhbkmpipmckkaaLEqint
import Derived.Test.YthhbkmpipmckkaaLKindlists
import Derived.Test.YthhbkmpipmckkaaP5
namespace Go.Proofs.Ythhbkmpipmckkaa.Pure
open Go.RowKit Go.Proofs.Ythhbkmpipmckkaa.P Go.Proofs.YthhbkmpipmckkaaW.PrintWords Go.Proofs.YthhbkmpipmckkaaW.PrintLast Go.Proofs.YthhbkmpipmckkaaW.PrintMore
set_option linter.unusedVariables false
set_option linter.unusedSimpArgs false

theorem FnExactAgesOfKind : laws_FnExactAgesOfKind.Pure := by
  intro a0 w0
  apply Ev.rounds
  rcases Classical.em ((a0.size : Int) > 1048576) with hb | hb
  · exact Ev.if_pos hb (Ev.now _)
  obtain ⟨⟨l, c⟩, hn, hs, hi⟩ := kinds_specAK a0
  simp only at hn
  refine Ev.if_neg hb (Ev.bind hs (Ev.bind hi (Ev.bind (eq_self l (by omega)) (Ev.if_pos rfl ?_))))
  refine Ev.step (fun k => by simp only [laws_FnExactAgesOfKind.j0]; rfl) (Ev.if_neg (by simp) (Ev.bind (mark_f l (by omega)) (Ev.bind (held_f l.length (by omega)) (Ev.if_neg (show ¬ (1 + (l.length : Int) < 0) by omega) (Ev.if_pos rfl (Ev.bind hi (Ev.bind (eq_self l (by omega)) (Ev.if_pos rfl ?_))))))))
  exact Ev.step (fun k => by simp only [laws_FnExactAgesOfKind.j1]; rfl) (Ev.if_neg (by simp) (Ev.bind (held_f l.length (by omega)) (Ev.if_neg (show ¬ (1 + (l.length : Int) < 0) by omega) (Ev.if_pos rfl (Ev.now _)))))

end Go.Proofs.Ythhbkmpipmckkaa.Pure
