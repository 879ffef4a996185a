import Derived.Test.YtbdgeknaddaekaaLAges
import Derived.Test.YtbdgeknaddaekaaLBase
import Derived.Test.YtbdgeknaddaekaaLFirsty
import Derived.Test.YtbdgeknaddaekaaLInyears
import Derived.Test.YtbdgeknaddaekaaLRange
import Derived.Test.YtbdgeknaddaekaaLSum
import Derived.Test.YtbdgeknaddaekaaLYears
import Derived.Test.YtbdgeknaddaekaaP4
import Derived.Test.YtbdgeknaddaekaaP5
namespace Go.Proofs.Ytbdgeknaddaekaa.P
open Go.RowKit Go.Proofs.YtbdgeknaddaekaaW.PrintWords Go.Proofs.YtbdgeknaddaekaaW.PrintLast Go.Proofs.YtbdgeknaddaekaaW.PrintMore
set_option linter.unusedVariables false
set_option linter.unusedSimpArgs false

def tsQ (l : List Int) (s y : Int) : Bool := decide (sumW (inY l y) 0 = s)
def tsOf (l : List Int) (s : Int) : Int × Bool := if goodB l = true then firstOf (tsQ l s) (loY l) (nY l) else (0, false)
theorem specTS_f (l : List Int) (s : Int) : Ev (fun k => spec_YearsToSum.f k l s) (tsOf l s) := by
  refine Ev.congr (fun k => by unfold spec_YearsToSum.f; rfl) (Ev.bind (agGood_f l) ?_)
  unfold tsOf
  cases hg : goodB l with
  | true =>
    have hb := range_bounds hg
    have hl := good_len hg
    refine Ev.if_pos rfl (Ev.bind (agRange_f hg) (Ev.same (loop_first (g := fun k y => spec_YearsToSum.l0 k l s (hiY l) y) (q := tsQ l s) (lo := loY l) (hi := hiY l) (fun y r h0 h1 h2 => ?_) ?_ (nY l) _ (Int.le_refl _) (nY_eq hg).1) (by simp)))
    · have ew : wrap64 (y + 1) = y + 1 := w64 (by omega) (by omega)
      refine Ev.step (fun k => by simp only [spec_YearsToSum.l0]; rw [if_pos h1, ew]) (Ev.bind (agIn_f l y (by omega)) (Ev.bind (agSum_f (inY l y) (by rw [inY_length]; omega)) ?_))
      by_cases h : sumW (inY l y) 0 = s
      · exact Ev.if_pos h (Ev.same (Ev.now _) (by simp [tsQ, h]))
      · exact Ev.if_neg h (Ev.same h2 (by simp [tsQ, h]))
    · exact Ev.step (f := fun _ => some (0, false)) (fun k => by simp only [spec_YearsToSum.l0]; rw [if_neg (by omega)]) (Ev.now _)
  | false => exact Ev.if_neg (by simp) (Ev.same (Ev.now _) (by simp))
theorem implTS_f (l : List Int) (s : Int) : Ev (fun k => impl_YearsToSum.f k l s) (tsOf l s) := by
  refine Ev.congr (fun k => by unfold impl_YearsToSum.f; rfl) (Ev.got (areAges_f l) ?_)
  unfold tsOf
  cases hg : goodB l with
  | true =>
    have hl := good_len hg
    refine Ev.if_pos rfl (Ev.same (firstY_f _ (tsQ l s) hg (fun y _ _ => ?_)) (by simp))
    exact Ev.bind (total_f (inY l y) (by rw [inY_length]; omega)) (Ev.same (Ev.now _) (by unfold tsQ; rw [Bool.beq_eq_decide_eq]))
  | false => exact Ev.if_neg (by simp) (Ev.same (Ev.now _) (by simp))

end Go.Proofs.Ytbdgeknaddaekaa.P
