import Derived.Test.YtbdgeknaddaekaaLAges
import Derived.Test.YtbdgeknaddaekaaLBase
import Derived.Test.YtbdgeknaddaekaaP3
namespace Go.Proofs.Ytbdgeknaddaekaa.P
open Go.RowKit Go.Proofs.YtbdgeknaddaekaaW.PrintWords Go.Proofs.YtbdgeknaddaekaaW.PrintLast Go.Proofs.YtbdgeknaddaekaaW.PrintMore
set_option linter.unusedVariables false
set_option linter.unusedSimpArgs false

/-! ### ages in other years -/
def inY (l : List Int) (y : Int) : List Int := l.map fun x => wrap64 (x + y)
theorem inY_length (l : List Int) (y : Int) : (inY l y).length = l.length := by simp [inY]
theorem inYears_l (y : Int) (l : List Int) (hb : l.length ≤ 1048576) (d : Nat) : ∀ (i : Nat) (acc : List Int), i + d = l.length → acc.length + d ≤ 1048576 → Ev (fun k => impl_inYears.l0 k y acc l (l.length : Int) (i : Int)) (acc ++ (l.drop i).map (fun x => wrap64 (x + y))) := by
  induction d with
  | zero =>
    intro i acc hi ha
    exact Ev.step (f := fun _ => some acc) (fun k => by simp only [impl_inYears.l0]; rw [if_neg (by omega)]) (Ev.same (Ev.now _) (by rw [List.drop_of_length_le (by omega)]; simp))
  | succ d ih =>
    intro i acc hi ha
    have ew : wrap64 ((i : Int) + 1) = ((i + 1 : Nat) : Int) := by rw [w64 (by omega) (by omega)]; omega
    refine Ev.step (f := fun k => impl_inYears.l0 k y (acc ++ [wrap64 (rd l (i : Int) + y)]) l (l.length : Int) ((i + 1 : Nat) : Int)) (fun k => ?_) (Ev.same (ih (i + 1) _ (by omega) (by simp; omega)) (by rw [drop_rd l i (by omega)]; simp))
    simp only [impl_inYears.l0]; rw [if_pos (by omega), if_pos (by omega), if_pos (by omega), if_pos (by omega), ew]
theorem inYears_f (l : List Int) (y : Int) (hb : l.length ≤ 1048576) : Ev (fun k => impl_inYears.f k l y) (inY l y) := Ev.same (inYears_l y l hb l.length 0 [] (by omega) (by simp; omega)) (by simp [inY])

end Go.Proofs.Ytbdgeknaddaekaa.P
