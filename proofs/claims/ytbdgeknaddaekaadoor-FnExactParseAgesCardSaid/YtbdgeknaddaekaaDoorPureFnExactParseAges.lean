/- In one sentence: the program's ParseAges and the reference's ParseAges return the same for all arguments, leave them as they were, and share no memory. Conditions: none. -/
import Derived.Test.YtbdgeknaddaekaaDoorLBase
import Derived.Test.YtbdgeknaddaekaaDoorLEqint
import Derived.Test.YtbdgeknaddaekaaDoorLParseages
import Derived.Test.YtbdgeknaddaekaaDoorP4
namespace Go.Proofs.YtbdgeknaddaekaaDoor.Pure
open Go.RowKit Go.Proofs.YtbdgeknaddaekaaDoor.P Go.Proofs.YtbdgeknaddaekaaDoorW.PrintWords Go.Proofs.YtbdgeknaddaekaaDoorW.PrintLast Go.Proofs.YtbdgeknaddaekaaDoorW.PrintMore
set_option linter.unusedVariables false
set_option linter.unusedSimpArgs false

theorem FnExactParseAges : laws_FnExactParseAges.Pure := by
  intro a0 w0
  apply Ev.rounds
  rcases Classical.em ((a0.size : Int) > 1048576) with hb | hb
  · exact Ev.if_pos hb (Ev.now _)
  have hn := paF_length a0
  have hs := specPA_f a0
  have hi := implPA_f a0
  generalize paF a0 = r at hn hs hi
  obtain ⟨l, c⟩ := r
  simp only at hn
  refine Ev.if_neg hb (Ev.bind hs (Ev.bind hi (Ev.bind (eq_self l (by omega)) (Ev.if_pos rfl ?_))))
  refine Ev.step (fun k => by simp only [laws_FnExactParseAges.j0]; rfl) (Ev.if_neg (by simp) (Ev.bind (mark_f l (by omega)) (Ev.bind (held_f l.length (by omega)) (Ev.if_neg (show ¬ (1 + (l.length : Int) < 0) by omega) (Ev.if_pos rfl (Ev.bind hi (Ev.bind (eq_self l (by omega)) (Ev.if_pos rfl ?_))))))))
  exact Ev.step (fun k => by simp only [laws_FnExactParseAges.j1]; rfl) (Ev.if_neg (by simp) (Ev.bind (held_f l.length (by omega)) (Ev.if_neg (show ¬ (1 + (l.length : Int) < 0) by omega) (Ev.if_pos rfl (Ev.now _)))))

end Go.Proofs.YtbdgeknaddaekaaDoor.Pure
