/- In one sentence: the program's AllMultiples and the reference's AllMultiples return the same for all arguments, leave them as they were, and share no memory. Conditions: none. -/
import Derived.Test.YtbdgeknaddaekaaLAllmultiples
import Derived.Test.YtbdgeknaddaekaaLBase
import Derived.Test.YtbdgeknaddaekaaLCellstwos
import Derived.Test.YtbdgeknaddaekaaLEqint
import Derived.Test.YtbdgeknaddaekaaLLaws
import Derived.Test.YtbdgeknaddaekaaLRows
import Derived.Test.YtbdgeknaddaekaaLWhen
import Derived.Test.YtbdgeknaddaekaaP4
namespace Go.Proofs.Ytbdgeknaddaekaa.Pure
open Go.RowKit Go.Proofs.Ytbdgeknaddaekaa.P Go.Proofs.YtbdgeknaddaekaaW.PrintWords Go.Proofs.YtbdgeknaddaekaaW.PrintLast Go.Proofs.YtbdgeknaddaekaaW.PrintMore
set_option linter.unusedVariables false
set_option linter.unusedSimpArgs false

theorem FnExactAllMultiples : laws_FnExactAllMultiples.Pure := by
  intro l0 a1 a2 h1 h2 h3 w1 w2
  apply Ev.rounds
  by_cases hb : (l0.length : Int) > 1048576
  · exact Ev.if_pos hb (Ev.now _)
  · have hl : l0.length ≤ 1048576 := by omega
    obtain ⟨s, ht, hs, hi⟩ := allM_both l0 a1 a2
    have hr : ∀ x ∈ s.1, x.length ≤ 1048576 := fun x hx => by have := ht.2 x hx; omega
    have hn := ht.1
    have hc := cells_twos ht
    refine Ev.if_neg hb (Ev.when (toInt_f l0 hl) (Ev.bind hs (Ev.when hi (Ev.when (eqSS_f s.1 (by omega) hr) (Ev.when (eq_self l0 (by omega)) ?_)))))
    refine Ev.bind (mark_f l0 (by omega)) (Ev.if_pos (show 0 ≤ 1 + (l0.length : Int) by omega) ?_)
    have h0 := cells_nonneg s.1
    refine Ev.bind (markSS_f s.1 (by omega) hr (by omega)) (Ev.if_pos (show 0 ≤ 1 + cells s.1 by omega) ?_)
    exact Ev.when (heldSS_f s.1 (by omega) hr (by omega)) (Ev.now _)

end Go.Proofs.Ytbdgeknaddaekaa.Pure
