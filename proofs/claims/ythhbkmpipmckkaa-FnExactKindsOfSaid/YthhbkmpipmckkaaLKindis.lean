import Derived.Test.YthhbkmpipmckkaaLBase
import Derived.Test.YthhbkmpipmckkaaLIn
import Derived.Test.YthhbkmpipmckkaaLKindlists
import Derived.Test.YthhbkmpipmckkaaLKinds
import Derived.Test.YthhbkmpipmckkaaP1
import Derived.Test.YthhbkmpipmckkaaP2
namespace Go.Proofs.Ythhbkmpipmckkaa.P
open Go.RowKit Go.Proofs.YthhbkmpipmckkaaW.PrintWords Go.Proofs.YthhbkmpipmckkaaW.PrintLast Go.Proofs.YthhbkmpipmckkaaW.PrintMore
set_option linter.unusedVariables false
set_option linter.unusedSimpArgs false

/-! ### one age and a kind -/
theorem kiAge_f (n : Int) : spec_kiAge.f n = some (decide (0 ≤ n ∧ n ≤ 120)) := by
  unfold spec_kiAge.f
  rw [l1In_f]
  rfl
theorem isAge_f (n : Int) : impl_isAge.f n = some (decide (0 ≤ n ∧ n ≤ 120)) := by
  unfold impl_isAge.f
  rw [between_f]
  rfl
theorem isKind_both (n : Int) (a : ByteArray) : ∃ r : Bool × Bool, Ev (fun k => spec_IsKind.f k n a) r ∧ Ev (fun k => impl_IsKind.f k n a) r := by
  by_cases hn : 0 ≤ n ∧ n ≤ 120
  · rcases kind_cases a with h | ⟨c, hc, h, hk⟩
    · refine ⟨(false, false), ?_, ?_⟩
      · refine Ev.congr (fun k => by unfold spec_IsKind.f; rfl) ?_
        exact Ev.got (kiAge_f n) (Ev.if_pos (decide_eq_true hn) (Ev.got (kiKind_f a) (by rw [h]; exact Ev.if_neg (show ¬ (false = true) by decide) (Ev.now _))))
      · refine Ev.congr (fun k => by unfold impl_IsKind.f; rfl) ?_
        exact Ev.got (isAge_f n) (Ev.if_pos (decide_eq_true hn) (Ev.got (isKind_f a) (by rw [h]; exact Ev.if_neg (show ¬ (false = true) by decide) (Ev.now _))))
    · have h9 : n ≤ 960 := by omega
      refine ⟨(kV c n, true), ?_, ?_⟩
      · refine Ev.congr (fun k => by unfold spec_IsKind.f; rfl) ?_
        exact Ev.got (kiAge_f n) (Ev.if_pos (decide_eq_true hn) (Ev.got (kiKind_f a) (by rw [hk]; exact Ev.if_pos rfl (Ev.bind (specK_f hc h hn.1 h9) (Ev.now _)))))
      · refine Ev.congr (fun k => by unfold impl_IsKind.f; rfl) ?_
        exact Ev.got (isAge_f n) (Ev.if_pos (decide_eq_true hn) (Ev.got (isKind_f a) (by rw [hk]; exact Ev.if_pos rfl (Ev.bind (implK_f hc h hn.1 h9) (Ev.now _)))))
  · refine ⟨(false, false), ?_, ?_⟩
    · refine Ev.congr (fun k => by unfold spec_IsKind.f; rfl) ?_
      exact Ev.got (kiAge_f n) (Ev.if_neg (fun e => hn (of_decide_eq_true e)) (Ev.now _))
    · refine Ev.congr (fun k => by unfold impl_IsKind.f; rfl) ?_
      exact Ev.got (isAge_f n) (Ev.if_neg (fun e => hn (of_decide_eq_true e)) (Ev.now _))

end Go.Proofs.Ythhbkmpipmckkaa.P
