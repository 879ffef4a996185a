/- In one sentence: the program's DropAge and the reference's DropAge return the same for all arguments, leave them as they were, and share no memory. Conditions: none. -/
import Derived.Test.YtngofdkfonnniaaLBase
import Derived.Test.YtngofdkfonnniaaLDropage
import Derived.Test.YtngofdkfonnniaaLEqint
import Derived.Test.YtngofdkfonnniaaLLaws
import Derived.Test.YtngofdkfonnniaaP9
namespace Go.Proofs.Ytngofdkfonnniaa.Pure
open Go.RowKit Go.Proofs.Ytngofdkfonnniaa.P Go.Proofs.YtngofdkfonnniaaW.PrintWords Go.Proofs.YtngofdkfonnniaaW.PrintLast Go.Proofs.YtngofdkfonnniaaW.PrintMore
set_option linter.unusedVariables false
set_option linter.unusedSimpArgs false

theorem FnExactDropAge : laws_FnExactDropAge.Pure := by
  intro l0 a1 h1 h2 h3 w1
  apply Ev.rounds
  by_cases hb : (l0.length : Int) > 1048576
  · exact Ev.if_pos hb (Ev.now _)
  · have hl : l0.length ≤ 1048576 := by omega
    have hs := specDA_f l0 a1
    have hi := implDA_f l0 a1
    have hn := drOf_length l0 a1
    generalize drOf l0 a1 = r at hs hi hn
    obtain ⟨l, c⟩ := r
    simp only at hn
    refine Ev.if_neg hb (Ev.bind (toInt_f l0 hl) (Ev.bind hs (Ev.bind (toInt_f l0 hl) (Ev.got hi (Ev.bind (eq_self l (by omega)) (Ev.if_pos rfl ?_))))))
    refine Ev.step (fun k => by simp only [laws_FnExactDropAge.j0]; rfl) (Ev.if_neg (by simp) (Ev.bind (toInt_f l0 hl) (Ev.bind (eq_self l0 (by omega)) (Ev.if_pos rfl (Ev.bind (mark_f l0 (by omega)) (Ev.if_neg (show ¬ (1 + (l0.length : Int) < 0) by omega) (Ev.bind (eq_self l (by omega)) (Ev.if_pos rfl ?_))))))))
    refine Ev.step (fun k => by simp only [laws_FnExactDropAge.j1]; rfl) (Ev.if_neg (by simp) (Ev.bind (mark_f l (by omega)) (Ev.bind (held_f l.length (by omega)) (Ev.if_neg (show ¬ (1 + (l.length : Int) < 0) by omega) (Ev.if_pos rfl (Ev.bind (toInt_f l0 hl) (Ev.got hi (Ev.bind (eq_self l (by omega)) (Ev.if_pos rfl ?_)))))))))
    exact Ev.step (fun k => by simp only [laws_FnExactDropAge.j2]; rfl) (Ev.if_neg (by simp) (Ev.bind (held_f l.length (by omega)) (Ev.if_neg (show ¬ (1 + (l.length : Int) < 0) by omega) (Ev.if_pos rfl (Ev.now _)))))

end Go.Proofs.Ytngofdkfonnniaa.Pure
