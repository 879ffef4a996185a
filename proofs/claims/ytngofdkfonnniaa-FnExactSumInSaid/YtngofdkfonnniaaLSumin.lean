import Derived.Test.YtngofdkfonnniaaLAges
import Derived.Test.YtngofdkfonnniaaLAgesin
import Derived.Test.YtngofdkfonnniaaLBase
import Derived.Test.YtngofdkfonnniaaLFit
import Derived.Test.YtngofdkfonnniaaLInyears
import Derived.Test.YtngofdkfonnniaaLSum
import Derived.Test.YtngofdkfonnniaaP10
namespace Go.Proofs.Ytngofdkfonnniaa.P
open Go.RowKit Go.Proofs.YtngofdkfonnniaaW.PrintWords Go.Proofs.YtngofdkfonnniaaW.PrintLast Go.Proofs.YtngofdkfonnniaaW.PrintMore
set_option linter.unusedVariables false
set_option linter.unusedSimpArgs false

def siOf (l : List Int) (y : Int) : Int × Bool := if fitB l y = true then (sumW (inY l y) 0, true) else (0, false)
theorem specSI_f (l : List Int) (y : Int) : Ev (fun k => spec_SumIn.f k l y) (siOf l y) := by
  refine Ev.congr (fun k => by unfold spec_SumIn.f; rfl) (Ev.bind (agFit_f l y) ?_)
  cases hf : fitB l y with
  | true =>
    have := good_len (fit_good hf).1
    exact Ev.if_pos rfl (Ev.bind (agIn_f l y (by omega)) (Ev.bind (agSum_f _ (by rw [inY_length]; omega)) (Ev.same (Ev.now _) (by unfold siOf; rw [if_pos hf]))))
  | false => exact Ev.if_neg (by simp) (Ev.same (Ev.now _) (by unfold siOf; rw [if_neg (by rw [hf]; simp)]))
theorem implSI_f (l : List Int) (y : Int) : Ev (fun k => impl_SumIn.f k l y) (siOf l y) := by
  have h1 := implAI_f l y
  have hl := aiOf_length l y
  have e : siOf l y = (sumW (aiOf l y).1 0, (aiOf l y).2) := by
    unfold siOf aiOf
    cases hf : fitB l y with
    | true => simp
    | false => simp [sumW]
  rw [e]
  generalize aiOf l y = r at h1 hl
  obtain ⟨m, c⟩ := r
  simp only at hl
  exact Ev.bind h1 (Ev.bind (total_f m (by omega)) (Ev.now _))

end Go.Proofs.Ytngofdkfonnniaa.P
