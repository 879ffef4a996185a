import Derived.Test.YtbdgeknaddaekaaLAges
import Derived.Test.YtbdgeknaddaekaaLBase
import Derived.Test.YtbdgeknaddaekaaLInyears
import Derived.Test.YtbdgeknaddaekaaLRange
import Derived.Test.YtbdgeknaddaekaaLYears
import Derived.Test.YtbdgeknaddaekaaP3
namespace Go.Proofs.Ytbdgeknaddaekaa.P
open Go.RowKit Go.Proofs.YtbdgeknaddaekaaW.PrintWords Go.Proofs.YtbdgeknaddaekaaW.PrintLast Go.Proofs.YtbdgeknaddaekaaW.PrintMore
set_option linter.unusedVariables false
set_option linter.unusedSimpArgs false

theorem firstY_f (p : Nat → List Int → Option Bool) (q : Int → Bool) {l : List Int} (hg : goodB l = true) (hq : ∀ y, loY l ≤ y → y ≤ hiY l → Ev (fun k => p k (inY l y)) (q y)) : Ev (fun k => firstY.f p k l) (firstOf q (loY l) (nY l)) := by
  have hb := range_bounds hg
  have hl := good_len hg
  refine Ev.congr (fun k => by unfold firstY.f; rfl) (Ev.got (fitYears_f hg) ?_)
  refine loop_first (g := fun k y => firstY.l0 p k l (hiY l) y) (lo := loY l) (hi := hiY l) (fun y r h0 h1 h2 => ?_) ?_ (nY l) _ (Int.le_refl _) (nY_eq hg).1
  · have ew : wrap64 (y + 1) = y + 1 := w64 (by omega) (by omega)
    refine Ev.step (fun k => by simp only [firstY.l0]; rw [if_pos h1, ew]) (Ev.bind (inYears_f l y (by omega)) (Ev.bind (hq y h0 h1) ?_))
    cases hqy : q y with
    | true => exact Ev.if_pos rfl (Ev.same (Ev.now _) (by simp))
    | false => exact Ev.if_neg (by simp) (Ev.same h2 (by simp))
  · exact Ev.step (f := fun _ => some (0, false)) (fun k => by simp only [firstY.l0]; rw [if_neg (by omega)]) (Ev.now _)

end Go.Proofs.Ytbdgeknaddaekaa.P
