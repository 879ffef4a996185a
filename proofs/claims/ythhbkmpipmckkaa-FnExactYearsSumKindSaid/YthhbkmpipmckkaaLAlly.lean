import Derived.Test.YthhbkmpipmckkaaLAges
import Derived.Test.YthhbkmpipmckkaaLBase
import Derived.Test.YthhbkmpipmckkaaLInyears
import Derived.Test.YthhbkmpipmckkaaLRange
import Derived.Test.YthhbkmpipmckkaaLYears
import Derived.Test.YthhbkmpipmckkaaP10
namespace Go.Proofs.Ythhbkmpipmckkaa.P
open Go.RowKit Go.Proofs.YthhbkmpipmckkaaW.PrintWords Go.Proofs.YthhbkmpipmckkaaW.PrintLast Go.Proofs.YthhbkmpipmckkaaW.PrintMore
set_option linter.unusedVariables false
set_option linter.unusedSimpArgs false

theorem allY_f (p : Nat → List Int → Option Bool) (q : Int → Bool) {l : List Int} (hg : goodB l = true) (hq : ∀ y, loY l ≤ y → y ≤ hiY l → Ev (fun k => p k (inY l y)) (q y)) : Ev (fun k => allY.f p k l) (coll q (fun j => j) (loY l) (nY l)) := by
  have hb := range_bounds hg
  have hl := good_len hg
  have hn := nY_eq hg
  refine Ev.congr (fun k => by unfold allY.f; rfl) (Ev.got (fitYears_f hg) ?_)
  refine Ev.same (loop_all (g := fun k acc y => allY.l0 p k l acc (hiY l) y) (q := q) (lo := loY l) (hi := hiY l) (fun z => z) (fun acc y r h0 h1 h2 h3 => ?_) (fun acc => ?_) (nY l) (loY l) [] (Int.le_refl _) hn.1 (by simp; omega)) (by simp)
  · have ew : wrap64 (y + 1) = y + 1 := w64 (by omega) (by omega)
    refine Ev.step (fun k => by simp only [allY.l0]; rw [if_pos h1, ew]) (Ev.bind (inYears_f l y (by omega)) (Ev.bind (hq y h0 h1) ?_))
    cases hqy : q y with
    | true => exact Ev.if_pos rfl (Ev.if_pos (by omega) (by simpa [hqy] using h3))
    | false => exact Ev.if_neg (by simp) (by simpa [hqy] using h3)
  · exact Ev.step (f := fun _ => some acc) (fun k => by simp only [allY.l0]; rw [if_neg (by omega)]) (Ev.now _)

end Go.Proofs.Ythhbkmpipmckkaa.P
