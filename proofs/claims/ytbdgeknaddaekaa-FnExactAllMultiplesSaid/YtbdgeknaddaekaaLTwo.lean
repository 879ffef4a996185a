import Derived.Test.YtbdgeknaddaekaaLAges
import Derived.Test.YtbdgeknaddaekaaLWho
import Derived.Test.YtbdgeknaddaekaaP2
namespace Go.Proofs.Ytbdgeknaddaekaa.P
open Go.RowKit Go.Proofs.YtbdgeknaddaekaaW.PrintWords Go.Proofs.YtbdgeknaddaekaaW.PrintLast Go.Proofs.YtbdgeknaddaekaaW.PrintMore
set_option linter.unusedVariables false
set_option linter.unusedSimpArgs false

/-! ### two different people -/
def twoB (l : List Int) (a b : Int) : Bool := whoB l a && whoB l b && (a != b)
theorem two_good {l : List Int} {a b : Int} (h : twoB l a b = true) : goodB l = true ∧ (0 ≤ a ∧ a < (l.length : Int)) ∧ (0 ≤ b ∧ b < (l.length : Int)) ∧ a ≠ b := by
  unfold twoB at h
  simp only [Bool.and_eq_true, bne_iff_ne] at h
  have h1 := who_good h.1.1
  have h2 := who_good h.1.2
  exact ⟨h1.1, h1.2, h2.2, h.2⟩
theorem areTwo_f (l : List Int) (a b : Int) : impl_areTwo.f l a b = some (twoB l a b) := by
  unfold impl_areTwo.f
  rw [areAges_f]
  simp only [Option.bind_some]
  cases hg : goodB l with
  | true =>
    rw [if_pos rfl, is_f l a hg, is_f l b hg]
    simp only [Option.bind_some]
    unfold twoB
    cases ha : whoB l a with
    | true =>
      rw [if_pos (by simpa using who_is ha)]
      cases hb : whoB l b with
      | true => rw [if_pos (by simpa using who_is hb)]; simp
      | false => rw [if_neg (by simpa using not_who hg hb)]; simp
    | false => rw [if_neg (by simpa using not_who hg ha)]; simp
  | false =>
    have ha : whoB l a = false := by unfold whoB; rw [hg]; rfl
    rw [if_neg (by simp)]; unfold twoB; rw [ha]; rfl

end Go.Proofs.Ytbdgeknaddaekaa.P
