import Derived.Test.YtngofdkfonnniaaLAges
import Derived.Test.YtngofdkfonnniaaLBase
import Derived.Test.YtngofdkfonnniaaLIn
import Derived.Test.YtngofdkfonnniaaLMinus
import Derived.Test.YtngofdkfonnniaaP3
namespace Go.Proofs.Ytngofdkfonnniaa.P
open Go.RowKit Go.Proofs.YtngofdkfonnniaaW.PrintWords Go.Proofs.YtngofdkfonnniaaW.PrintLast Go.Proofs.YtngofdkfonnniaaW.PrintMore
set_option linter.unusedVariables false
set_option linter.unusedSimpArgs false

/-! ### births and ages -/
theorem maplen (l : List Int) (f : Int → Int) (h : l.length ≤ 1048576) : (l.map f).length ≤ 1048576 := by simpa using h
def byOf (l : List Int) (y : Int) : List Int × Bool := if goodB l = true ∧ 120 ≤ y ∧ y ≤ 3000 then (l.map (fun x => wrap64 (y - x)), true) else ([], false)
theorem byOf_length (l : List Int) (y : Int) : (byOf l y).1.length ≤ 8 := by
  unfold byOf
  split
  · rename_i h; have := good_len h.1; simp; omega
  · simp
theorem specBY_f (l : List Int) (y : Int) : Ev (fun k => spec_BirthYears.f k l y) (byOf l y) := by
  refine Ev.congr (fun k => by unfold spec_BirthYears.f; rfl) (Ev.bind (agGood_f l) ?_)
  cases hg : goodB l with
  | true =>
    have := good_len hg
    refine Ev.if_pos rfl (Ev.got (l1In_f y 120 3000) ?_)
    by_cases hy : 120 ≤ y ∧ y ≤ 3000
    · refine Ev.step (f := fun k => spec_BirthYears.l0 k y [] l (l.length : Int) 0) (fun k => ?_) (Ev.same (specBY_l y l (by omega) l.length 0 [] (by omega) (by simp; omega)) (by unfold byOf; rw [if_pos ⟨hg, hy⟩]; simp))
      simp only [spec_BirthYears.j0]; rw [if_neg (by rw [decide_eq_true hy]; simp)]
    · refine Ev.step (f := fun _ => some ([], false)) (fun k => ?_) (Ev.same (Ev.now _) (by unfold byOf; rw [if_neg (fun h => hy h.2)]))
      simp only [spec_BirthYears.j0]; rw [if_pos (by rw [decide_eq_false hy]; rfl)]
  | false =>
    refine Ev.if_neg (by simp) (Ev.step (f := fun _ => some ([], false)) (fun k => by simp only [spec_BirthYears.j0, if_true]) (Ev.same (Ev.now _) ?_))
    unfold byOf; rw [if_neg (fun h => by rw [hg] at h; simp at h)]
theorem implBY_f (l : List Int) (y : Int) : Ev (fun k => impl_BirthYears.f k l y) (byOf l y) := by
  refine Ev.congr (fun k => by unfold impl_BirthYears.f; rfl) (Ev.got (areAges_f l) ?_)
  cases hg : goodB l with
  | true =>
    have := good_len hg
    refine Ev.if_pos rfl (Ev.got (between_f y 120 3000) ?_)
    by_cases hy : 120 ≤ y ∧ y ≤ 3000
    · refine Ev.step (f := fun k => impl_BirthYears.l0 k y [] l (l.length : Int) 0) (fun k => ?_) (Ev.same (implBY_l y l (by omega) l.length 0 [] (by omega) (by simp; omega)) (by unfold byOf; rw [if_pos ⟨hg, hy⟩]; simp))
      simp only [impl_BirthYears.j0]; rw [if_neg (by rw [decide_eq_true hy]; simp)]
    · refine Ev.step (f := fun _ => some ([], false)) (fun k => ?_) (Ev.same (Ev.now _) (by unfold byOf; rw [if_neg (fun h => hy h.2)]))
      simp only [impl_BirthYears.j0]; rw [if_pos (by rw [decide_eq_false hy]; rfl)]
  | false =>
    refine Ev.if_neg (by simp) (Ev.step (f := fun _ => some ([], false)) (fun k => by simp only [impl_BirthYears.j0, if_true]) (Ev.same (Ev.now _) ?_))
    unfold byOf; rw [if_neg (fun h => by rw [hg] at h; simp at h)]

end Go.Proofs.Ytngofdkfonnniaa.P
