/- In one sentence: the program's GreatestGap and the reference's GreatestGap return the same for all arguments, and what the law marks stays marked. Conditions: none. -/
import Derived.Test.YtglgikhmiijdcaaPFnExactGreatestGapx3
namespace Go.Proofs.Ytglgikhmiijdcaa.Pure
open Go.RowKit Go.Proofs.Ytglgikhmiijdcaa.PFnExactGreatestGap Go.Proofs.YtglgikhmiijdcaaW.PrintWords Go.Proofs.YtglgikhmiijdcaaW.PrintLast
set_option linter.unusedVariables false
set_option linter.unusedSimpArgs false

/-! ### dates -/
theorem l1In_f (a b c : Int) : spec_l1In.f a b c = some (decide (b ≤ a ∧ a ≤ c)) := by
  unfold spec_l1In.f
  split
  · rename_i h; simp [h]
  · rename_i h; simp; omega
theorem between_f (a b c : Int) : impl_between.f a b c = some (decide (b ≤ a ∧ a ≤ c)) := by
  unfold impl_between.f
  split
  · rename_i h; simp [h]
  · rename_i h; simp; omega
def IsD (y d : Int) : Prop := 0 ≤ y ∧ y ≤ 3000 ∧ 1 ≤ d ∧ d ≤ 365
instance (y d : Int) : Decidable (IsD y d) := inferInstanceAs (Decidable (0 ≤ y ∧ y ≤ 3000 ∧ 1 ≤ d ∧ d ≤ 365))
theorem biDate_f (y d : Int) : spec_biDate.f y d = some (decide (IsD y d)) := by
  unfold spec_biDate.f
  simp only [l1In_f, Option.bind_some]
  by_cases h : 0 ≤ y ∧ y ≤ 3000
  · rw [if_pos (by simpa using h)]
    exact congrArg some (decide_eq_decide.mpr ⟨fun q => ⟨h.1, h.2, q.1, q.2⟩, fun q => ⟨q.2.2.1, q.2.2.2⟩⟩)
  · have e : decide (IsD y d) = false := decide_eq_false (fun q => h ⟨q.1, q.2.1⟩)
    rw [if_neg (by simpa using h), e]
theorem isDate_f (y d : Int) : impl_IsDate.f y d = some (decide (IsD y d)) := by
  unfold impl_IsDate.f
  simp only [between_f, Option.bind_some]
  by_cases h : 0 ≤ y ∧ y ≤ 3000
  · rw [if_pos (by simpa using h)]
    exact congrArg some (decide_eq_decide.mpr ⟨fun q => ⟨h.1, h.2, q.1, q.2⟩, fun q => ⟨q.2.2.1, q.2.2.2⟩⟩)
  · have e : decide (IsD y d) = false := decide_eq_false (fun q => h ⟨q.1, q.2.1⟩)
    rw [if_neg (by simpa using h), e]
theorem w64 {x : Int} (h0 : -9223372036854775808 ≤ x) (h1 : x ≤ 9223372036854775807) : wrap64 x = x := by
  unfold wrap64
  omega

theorem biDays_f (y d : Int) (h : IsD y d) : spec_biDays.f y d = some (365 * y + d - 1) := by
  unfold IsD at h
  unfold spec_biDays.f
  rw [w64 (x := y * 365) (by omega) (by omega), w64 (x := y * 365 + d) (by omega) (by omega), w64 (by omega) (by omega)]
  congr 1; omega
theorem index_f (y d : Int) (h : IsD y d) : impl_Date_index.f y d = some (365 * y + d - 1) := by
  unfold IsD at h
  unfold impl_Date_index.f
  rw [w64 (x := y * 365) (by omega) (by omega), w64 (x := y * 365 + d) (by omega) (by omega), w64 (by omega) (by omega)]
  congr 1; omega

theorem FnExactGreatestGap (a b c d : Int) : ∃ k, laws_FnExactGreatestGap.f k a b c d = some true := by
  refine ⟨1, ?_⟩
  simp only [laws_FnExactGreatestGap.f, laws_toDate.f, Option.bind_some, spec_GreatestGap.f, impl_GreatestGap.f, biDate_f, isDate_f]
  by_cases h1 : IsD a b
  · by_cases h2 : IsD c d
    · have e1 := biDays_f a b h1
      have e2 := biDays_f c d h2
      have e3 := index_f a b h1
      have e4 := index_f c d h2
      have q1 : IsD a b := h1
      have q2 : IsD c d := h2
      unfold IsD at h1 h2
      simp only [q1, q2, decide_true, if_true, e1, e2, e3, e4, Option.bind_some, spec_GreatestGap.j0, impl_GreatestGap.j0]
      by_cases hg : 365 * a + b - 1 > 365 * c + d - 1
      · simp [hg]
      · have w1 : wrap64 ((365 * c + d - 1) - (365 * a + b - 1)) = (365 * c + d - 1) - (365 * a + b - 1) := w64 (by omega) (by omega)
        have w2 : wrap64 ((365 * c + d - 1) - (365 * a + b - 1) + 365) = (365 * c + d - 1) - (365 * a + b - 1) + 365 := w64 (by omega) (by omega)
        have w3 : wrap64 ((365 * c + d - 1) - (365 * a + b - 1) + 365 - 1) = (365 * c + d - 1) - (365 * a + b - 1) + 365 - 1 := w64 (by omega) (by omega)
        have t1 : Int.tdiv ((365 * c + d - 1) - (365 * a + b - 1)) 365 = ((365 * c + d - 1) - (365 * a + b - 1)) / 365 := Int.tdiv_eq_ediv_of_nonneg (by omega)
        have t2 : Int.tdiv ((365 * c + d - 1) - (365 * a + b - 1) + 365 - 1) 365 = ((365 * c + d - 1) - (365 * a + b - 1) + 365 - 1) / 365 := Int.tdiv_eq_ediv_of_nonneg (by omega)
        have w4 : wrap64 (((365 * c + d - 1) - (365 * a + b - 1)) / 365) = ((365 * c + d - 1) - (365 * a + b - 1)) / 365 := w64 (by omega) (by omega)
        have w5 : wrap64 (((365 * c + d - 1) - (365 * a + b - 1) + 365 - 1) / 365) = ((365 * c + d - 1) - (365 * a + b - 1) + 365 - 1) / 365 := w64 (by omega) (by omega)
        have w6 : wrap64 (c - a) = c - a := w64 (by omega) (by omega)
        have w7 : wrap64 (c - a - 1) = c - a - 1 := w64 (by omega) (by omega)
        have w8 : wrap64 (c - a - 1 + 1) = c - a - 1 + 1 := w64 (by omega) (by omega)
        have w9 : wrap64 (c - a + 1) = c - a + 1 := w64 (by omega) (by omega)
        simp only [hg, decide_false, spec_biAge.f, w1, w2, w3, t1, t2, w4, w5, w6, w7]
        by_cases hd : d < b
        · have x1 : ((365 * c + d - 1) - (365 * a + b - 1)) / 365 = c - a - 1 := by omega
          have x2 : ((365 * c + d - 1) - (365 * a + b - 1) + 365 - 1) / 365 = c - a - 1 + 1 := by omega
          have x3 : ¬ b = d := by omega
          simp [hd, x1, x2, x3, w8, w7, w6]
        · by_cases he : b = d
          · have x1 : ((365 * c + d - 1) - (365 * a + b - 1)) / 365 = c - a := by omega
            have x2 : ((365 * c + d - 1) - (365 * a + b - 1) + 365 - 1) / 365 = c - a := by omega
            simp only [x1, x2]
            simp [hd, he, w6]
          · have x1 : ((365 * c + d - 1) - (365 * a + b - 1)) / 365 = c - a := by omega
            have x2 : ((365 * c + d - 1) - (365 * a + b - 1) + 365 - 1) / 365 = c - a + 1 := by omega
            simp only [x1, x2]
            simp [hd, he, w9, w6]
    · simp [h1, h2, spec_GreatestGap.j0, impl_GreatestGap.j0]
  · simp [h1, spec_GreatestGap.j0, impl_GreatestGap.j0]

end Go.Proofs.Ytglgikhmiijdcaa.Pure
