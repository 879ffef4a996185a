/- In one sentence: the program's YearsSumKind and the reference's YearsSumKind return the same for all arguments, leave them as they were, and share no memory. Conditions: none. -/
import Derived.Test.YthhbkmpipmckkaaLBase
import Derived.Test.YthhbkmpipmckkaaLEqint
import Derived.Test.YthhbkmpipmckkaaLKindsum
import Derived.Test.YthhbkmpipmckkaaLLaws
import Derived.Test.YthhbkmpipmckkaaP11
namespace Go.Proofs.Ythhbkmpipmckkaa.Pure
open Go.RowKit Go.Proofs.Ythhbkmpipmckkaa.P Go.Proofs.YthhbkmpipmckkaaW.PrintWords Go.Proofs.YthhbkmpipmckkaaW.PrintLast Go.Proofs.YthhbkmpipmckkaaW.PrintMore
set_option linter.unusedVariables false
set_option linter.unusedSimpArgs false

theorem FnExactYearsSumKind : laws_FnExactYearsSumKind.Pure := by
  intro l0 a1 h1 h2 h3 w1
  apply Ev.rounds
  by_cases hb : (l0.length : Int) > 1048576
  · exact Ev.if_pos hb (Ev.now _)
  · have hl : l0.length ≤ 1048576 := by omega
    rcases Classical.em ((a1.size : Int) > 1048576) with hb2 | hb2
    · exact Ev.if_neg hb (Ev.if_pos hb2 (Ev.now _))
    obtain ⟨⟨l, c⟩, hn, hs, hi⟩ := sumK_both l0 a1
    simp only at hn
    refine Ev.if_neg hb (Ev.if_neg hb2 (Ev.bind (toInt_f l0 hl) (Ev.bind hs (Ev.bind (toInt_f l0 hl) (Ev.bind hi (Ev.bind (eq_self l (by omega)) (Ev.if_pos rfl ?_)))))))
    refine Ev.step (fun k => by simp only [laws_FnExactYearsSumKind.j0]; rfl) (Ev.if_neg (by simp) (Ev.bind (toInt_f l0 hl) (Ev.bind (eq_self l0 (by omega)) (Ev.if_pos rfl (Ev.bind (mark_f l0 (by omega)) (Ev.if_neg (show ¬ (1 + (l0.length : Int) < 0) by omega) (Ev.bind (eq_self l (by omega)) (Ev.if_pos rfl ?_))))))))
    refine Ev.step (fun k => by simp only [laws_FnExactYearsSumKind.j1]; rfl) (Ev.if_neg (by simp) (Ev.bind (mark_f l (by omega)) (Ev.bind (held_f l.length (by omega)) (Ev.if_neg (show ¬ (1 + (l.length : Int) < 0) by omega) (Ev.if_pos rfl (Ev.bind (toInt_f l0 hl) (Ev.bind hi (Ev.bind (eq_self l (by omega)) (Ev.if_pos rfl ?_)))))))))
    exact Ev.step (fun k => by simp only [laws_FnExactYearsSumKind.j2]; rfl) (Ev.if_neg (by simp) (Ev.bind (held_f l.length (by omega)) (Ev.if_neg (show ¬ (1 + (l.length : Int) < 0) by omega) (Ev.if_pos rfl (Ev.now _)))))

end Go.Proofs.Ythhbkmpipmckkaa.Pure
