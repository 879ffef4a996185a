import Derived.Test.YtngofdkfonnniaaLAges
import Derived.Test.YtngofdkfonnniaaLBase
import Derived.Test.YtngofdkfonnniaaLFit
import Derived.Test.YtngofdkfonnniaaLInyears
import Derived.Test.YtngofdkfonnniaaP10
import Derived.Test.YtngofdkfonnniaaP9
namespace Go.Proofs.Ytngofdkfonnniaa.P
open Go.RowKit Go.Proofs.YtngofdkfonnniaaW.PrintWords Go.Proofs.YtngofdkfonnniaaW.PrintLast Go.Proofs.YtngofdkfonnniaaW.PrintMore
set_option linter.unusedVariables false
set_option linter.unusedSimpArgs false

def aiOf (l : List Int) (y : Int) : List Int × Bool := if fitB l y = true then (inY l y, true) else ([], false)
theorem specAI_f (l : List Int) (y : Int) : Ev (fun k => spec_AgesIn.f k l y) (aiOf l y) := by
  refine Ev.congr (fun k => by unfold spec_AgesIn.f; rfl) (Ev.bind (agFit_f l y) ?_)
  cases hf : fitB l y with
  | true =>
    have := good_len (fit_good hf).1
    exact Ev.if_pos rfl (Ev.bind (agIn_f l y (by omega)) (Ev.same (Ev.now _) (by unfold aiOf; rw [hf]; rfl)))
  | false => exact Ev.if_neg (by simp) (Ev.same (Ev.now _) (by unfold aiOf; rw [hf]; rfl))
theorem implAI_f (l : List Int) (y : Int) : Ev (fun k => impl_AgesIn.f k l y) (aiOf l y) := by
  refine Ev.congr (fun k => by unfold impl_AgesIn.f; rfl) (Ev.got (areAges_f l) ?_)
  cases hg : goodB l with
  | true =>
    have := good_len hg
    refine Ev.if_pos rfl (Ev.got (isFit_f hg y) ?_)
    cases hf : fitB l y with
    | true => exact Ev.if_pos rfl (Ev.bind (inYears_f l y (by omega)) (Ev.same (Ev.now _) (by unfold aiOf; rw [hf]; rfl)))
    | false => exact Ev.if_neg (by simp) (Ev.same (Ev.now _) (by unfold aiOf; rw [hf]; rfl))
  | false =>
    have hf : fitB l y = false := by unfold fitB; rw [hg]; rfl
    exact Ev.if_neg (by simp) (Ev.same (Ev.now _) (by unfold aiOf; rw [hf]; rfl))
theorem aiOf_length (l : List Int) (y : Int) : (aiOf l y).1.length ≤ 8 := by
  unfold aiOf
  split
  · rename_i h; have := good_len (fit_good h).1; simp [inY_length]; omega
  · simp

end Go.Proofs.Ytngofdkfonnniaa.P
