/- In one sentence: the program's GapsOfAges and the reference's GapsOfAges return the same for all arguments, leave them as they were, and share no memory. Conditions: none. -/
import Derived.Test.YtbdgeknaddaekaaLBase
import Derived.Test.YtbdgeknaddaekaaLEqint
import Derived.Test.YtbdgeknaddaekaaLGaps
import Derived.Test.YtbdgeknaddaekaaLLaws
import Derived.Test.YtbdgeknaddaekaaP14
namespace Go.Proofs.Ytbdgeknaddaekaa.Pure
open Go.RowKit Go.Proofs.Ytbdgeknaddaekaa.P Go.Proofs.YtbdgeknaddaekaaW.PrintWords Go.Proofs.YtbdgeknaddaekaaW.PrintLast Go.Proofs.YtbdgeknaddaekaaW.PrintMore
set_option linter.unusedVariables false
set_option linter.unusedSimpArgs false

theorem FnExactGapsOfAges : laws_FnExactGapsOfAges.Pure := by
  intro l0  h1 h2 h3 
  apply Ev.rounds
  by_cases hb : (l0.length : Int) > 1048576
  · exact Ev.if_pos hb (Ev.now _)
  · have hl : l0.length ≤ 1048576 := by omega
    have hs := specGA_f l0
    have hi := implGA_f l0
    have hn := gaOf_length l0
    generalize gaOf l0 = r at hs hi hn
    obtain ⟨l, c⟩ := r
    simp only at hn
    refine Ev.if_neg hb (Ev.bind (toInt_f l0 hl) (Ev.bind hs (Ev.bind (toInt_f l0 hl) (Ev.bind hi (Ev.bind (eq_self l (by omega)) (Ev.if_pos rfl ?_))))))
    refine Ev.step (fun k => by simp only [laws_FnExactGapsOfAges.j0]; rfl) (Ev.if_neg (by simp) (Ev.bind (toInt_f l0 hl) (Ev.bind (eq_self l0 (by omega)) (Ev.if_pos rfl (Ev.bind (mark_f l0 (by omega)) (Ev.if_neg (show ¬ (1 + (l0.length : Int) < 0) by omega) (Ev.bind (eq_self l (by omega)) (Ev.if_pos rfl ?_))))))))
    refine Ev.step (fun k => by simp only [laws_FnExactGapsOfAges.j1]; rfl) (Ev.if_neg (by simp) (Ev.bind (mark_f l (by omega)) (Ev.bind (held_f l.length (by omega)) (Ev.if_neg (show ¬ (1 + (l.length : Int) < 0) by omega) (Ev.if_pos rfl (Ev.bind (toInt_f l0 hl) (Ev.bind hi (Ev.bind (eq_self l (by omega)) (Ev.if_pos rfl ?_)))))))))
    exact Ev.step (fun k => by simp only [laws_FnExactGapsOfAges.j2]; rfl) (Ev.if_neg (by simp) (Ev.bind (held_f l.length (by omega)) (Ev.if_neg (show ¬ (1 + (l.length : Int) < 0) by omega) (Ev.if_pos rfl (Ev.now _)))))

end Go.Proofs.Ytbdgeknaddaekaa.Pure
