import Derived.Test.YtngofdkfonnniaaLAges
import Derived.Test.YtngofdkfonnniaaLAgesin
import Derived.Test.YtngofdkfonnniaaLBase
import Derived.Test.YtngofdkfonnniaaLFit
import Derived.Test.YtngofdkfonnniaaLInyears
import Derived.Test.YtngofdkfonnniaaLProduct
import Derived.Test.YtngofdkfonnniaaP11
namespace Go.Proofs.Ytngofdkfonnniaa.P
open Go.RowKit Go.Proofs.YtngofdkfonnniaaW.PrintWords Go.Proofs.YtngofdkfonnniaaW.PrintLast Go.Proofs.YtngofdkfonnniaaW.PrintMore
set_option linter.unusedVariables false
set_option linter.unusedSimpArgs false

def piOf (l : List Int) (y : Int) : Int × Bool := if fitB l y = true then (prodW (inY l y) 1, true) else (0, false)
theorem specPI_f (l : List Int) (y : Int) : Ev (fun k => spec_ProductIn.f k l y) (piOf l y) := by
  refine Ev.congr (fun k => by unfold spec_ProductIn.f; rfl) (Ev.bind (agFit_f l y) ?_)
  cases hf : fitB l y with
  | true =>
    have := good_len (fit_good hf).1
    exact Ev.if_pos rfl (Ev.bind (agIn_f l y (by omega)) (Ev.bind (agProduct_f _ (by rw [inY_length]; omega)) (Ev.same (Ev.now _) (by unfold piOf; rw [if_pos hf]))))
  | false => exact Ev.if_neg (by simp) (Ev.same (Ev.now _) (by unfold piOf; rw [if_neg (by rw [hf]; simp)]))
theorem implPI_f (l : List Int) (y : Int) : Ev (fun k => impl_ProductIn.f k l y) (piOf l y) := by
  refine Ev.congr (fun k => by unfold impl_ProductIn.f; rfl) (Ev.bind (implAI_f l y) ?_)
  have hl := aiOf_length l y
  cases hf : fitB l y with
  | true =>
    have e : aiOf l y = (inY l y, true) := by unfold aiOf; rw [if_pos hf]
    rw [e] at hl ⊢
    exact Ev.if_pos rfl (Ev.bind (product_f _ (show (inY l y).length ≤ 1048576 by simp only at hl; omega)) (Ev.same (Ev.now _) (by unfold piOf; rw [if_pos hf])))
  | false =>
    have e : aiOf l y = ([], false) := by unfold aiOf; rw [if_neg (by rw [hf]; simp)]
    rw [e]
    exact Ev.if_neg (by simp) (Ev.same (Ev.now _) (by unfold piOf; rw [if_neg (by rw [hf]; simp)]))

end Go.Proofs.Ytngofdkfonnniaa.P
