/- In one sentence: the program's IsDate and the reference's IsDate return the same for all arguments, and what the law marks stays marked. Conditions: none. -/
import Derived.Test.YtglgikhmiijdcaaPFnExactIsDatex1
namespace Go.Proofs.Ytglgikhmiijdcaa.Pure
open Go.RowKit Go.Proofs.Ytglgikhmiijdcaa.PFnExactIsDate Go.Proofs.YtglgikhmiijdcaaW.PrintWords Go.Proofs.YtglgikhmiijdcaaW.PrintLast
set_option linter.unusedVariables false
set_option linter.unusedSimpArgs false

/-! ### dates -/
theorem l1In_f (a b c : Int) : spec_l1In.f a b c = some (decide (b ≤ a ∧ a ≤ c)) := by
  unfold spec_l1In.f
  split
  · rename_i h; simp [h]
  · rename_i h; simp; omega
theorem between_f (a b c : Int) : impl_between.f a b c = some (decide (b ≤ a ∧ a ≤ c)) := by
  unfold impl_between.f
  split
  · rename_i h; simp [h]
  · rename_i h; simp; omega
def IsD (y d : Int) : Prop := 0 ≤ y ∧ y ≤ 3000 ∧ 1 ≤ d ∧ d ≤ 365
instance (y d : Int) : Decidable (IsD y d) := inferInstanceAs (Decidable (0 ≤ y ∧ y ≤ 3000 ∧ 1 ≤ d ∧ d ≤ 365))
theorem biDate_f (y d : Int) : spec_biDate.f y d = some (decide (IsD y d)) := by
  unfold spec_biDate.f
  simp only [l1In_f, Option.bind_some]
  by_cases h : 0 ≤ y ∧ y ≤ 3000
  · rw [if_pos (by simpa using h)]
    exact congrArg some (decide_eq_decide.mpr ⟨fun q => ⟨h.1, h.2, q.1, q.2⟩, fun q => ⟨q.2.2.1, q.2.2.2⟩⟩)
  · have e : decide (IsD y d) = false := decide_eq_false (fun q => h ⟨q.1, q.2.1⟩)
    rw [if_neg (by simpa using h), e]
theorem isDate_f (y d : Int) : impl_IsDate.f y d = some (decide (IsD y d)) := by
  unfold impl_IsDate.f
  simp only [between_f, Option.bind_some]
  by_cases h : 0 ≤ y ∧ y ≤ 3000
  · rw [if_pos (by simpa using h)]
    exact congrArg some (decide_eq_decide.mpr ⟨fun q => ⟨h.1, h.2, q.1, q.2⟩, fun q => ⟨q.2.2.1, q.2.2.2⟩⟩)
  · have e : decide (IsD y d) = false := decide_eq_false (fun q => h ⟨q.1, q.2.1⟩)
    rw [if_neg (by simpa using h), e]
theorem w64 {x : Int} (h0 : -9223372036854775808 ≤ x) (h1 : x ≤ 9223372036854775807) : wrap64 x = x := by
  unfold wrap64
  omega

theorem FnExactIsDate (a b : Int) : laws_FnExactIsDate.f a b = some true := by
  simp only [laws_FnExactIsDate.f, laws_toDate.f, Option.bind_some, spec_IsDate.f, biDate_f, isDate_f]
  simp

end Go.Proofs.Ytglgikhmiijdcaa.Pure
