/- In one sentence: the program's AlikePairs and the reference's AlikePairs return the same for all arguments, leave them as they were, and share no memory. Conditions: none. -/
import Derived.Test.YtngofdkfonnniaaLAlikepairs
import Derived.Test.YtngofdkfonnniaaLBase
import Derived.Test.YtngofdkfonnniaaLEqint
import Derived.Test.YtngofdkfonnniaaLLaws
import Derived.Test.YtngofdkfonnniaaLRows
import Derived.Test.YtngofdkfonnniaaLWhen
import Derived.Test.YtngofdkfonnniaaP10
namespace Go.Proofs.Ytngofdkfonnniaa.Pure
open Go.RowKit Go.Proofs.Ytngofdkfonnniaa.P Go.Proofs.YtngofdkfonnniaaW.PrintWords Go.Proofs.YtngofdkfonnniaaW.PrintLast Go.Proofs.YtngofdkfonnniaaW.PrintMore
set_option linter.unusedVariables false
set_option linter.unusedSimpArgs false

theorem FnExactAlikePairs : laws_FnExactAlikePairs.Pure := by
  intro l0  h1 h2 h3 
  apply Ev.rounds
  by_cases hb : (l0.length : Int) > 1048576
  · exact Ev.if_pos hb (Ev.now _)
  · have hl : l0.length ≤ 1048576 := by omega
    obtain ⟨s, ht, hs, hi⟩ := alike_both l0
    have hr : ∀ x ∈ s.1, x.length ≤ 1048576 := fun x hx => by have := ht.2 x hx; omega
    have hn := ht.1
    have hc := cells_twos ht
    refine Ev.if_neg hb (Ev.when (toInt_f l0 hl) (Ev.bind hs (Ev.when hi (Ev.when (eqSS_f s.1 (by omega) hr) (Ev.when (eq_self l0 (by omega)) ?_)))))
    refine Ev.bind (mark_f l0 (by omega)) (Ev.if_pos (show 0 ≤ 1 + (l0.length : Int) by omega) ?_)
    have h0 := cells_nonneg s.1
    refine Ev.bind (markSS_f s.1 (by omega) hr (by omega)) (Ev.if_pos (show 0 ≤ 1 + cells s.1 by omega) ?_)
    exact Ev.when (heldSS_f s.1 (by omega) hr (by omega)) (Ev.now _)

end Go.Proofs.Ytngofdkfonnniaa.Pure
