import Derived.Test.YtbdgeknaddaekaaLAges
import Derived.Test.YtbdgeknaddaekaaLBase
import Derived.Test.YtbdgeknaddaekaaLIn
import Derived.Test.YtbdgeknaddaekaaP1
import Derived.Test.YtbdgeknaddaekaaP2
namespace Go.Proofs.Ytbdgeknaddaekaa.P
open Go.RowKit Go.Proofs.YtbdgeknaddaekaaW.PrintWords Go.Proofs.YtbdgeknaddaekaaW.PrintLast Go.Proofs.YtbdgeknaddaekaaW.PrintMore
set_option linter.unusedVariables false
set_option linter.unusedSimpArgs false

/-! ### somebody of ages -/
def whoB (l : List Int) (a : Int) : Bool := goodB l && decide (0 ≤ a ∧ a ≤ (l.length : Int) - 1)
theorem agWho_f (l : List Int) (a : Int) : Ev (fun k => spec_agWho.f k l a) (whoB l a) := by
  refine Ev.congr (fun k => by unfold spec_agWho.f; rfl) (Ev.bind (agGood_f l) ?_)
  cases hg : goodB l with
  | true =>
    have := good_len hg
    refine Ev.if_pos rfl (Ev.got (l1In_f a 0 _) (Ev.same (Ev.now _) ?_))
    rw [w64 (by omega) (by omega)]
    unfold whoB; rw [hg]; rfl
  | false => exact Ev.if_neg (by simp) (Ev.same (Ev.now _) (by unfold whoB; rw [hg]; rfl))
theorem is_f (l : List Int) (a : Int) (hg : goodB l = true) : impl_is.f l a = some (decide (0 ≤ a ∧ a ≤ (l.length : Int) - 1)) := by
  have := good_len hg
  unfold impl_is.f
  rw [between_f, w64 (by omega) (by omega)]
  rfl
theorem who_good {l : List Int} {a : Int} (h : whoB l a = true) : goodB l = true ∧ 0 ≤ a ∧ a < (l.length : Int) := by
  unfold whoB at h
  simp only [Bool.and_eq_true, decide_eq_true_eq] at h
  exact ⟨h.1, h.2.1, by omega⟩
theorem not_who {l : List Int} {a : Int} (hg : goodB l = true) (h : whoB l a = false) : ¬ (0 ≤ a ∧ a ≤ (l.length : Int) - 1) := by
  unfold whoB at h
  rw [hg, Bool.true_and] at h
  exact of_decide_eq_false h
theorem who_is {l : List Int} {a : Int} (h : whoB l a = true) : 0 ≤ a ∧ a ≤ (l.length : Int) - 1 := by
  have := who_good h
  omega

end Go.Proofs.Ytbdgeknaddaekaa.P
