import Derived.Test.YtbdgeknaddaekaaLAges
import Derived.Test.YtbdgeknaddaekaaLBase
import Derived.Test.YtbdgeknaddaekaaP5
import Derived.Test.YtbdgeknaddaekaaP6
namespace Go.Proofs.Ytbdgeknaddaekaa.P
open Go.RowKit Go.Proofs.YtbdgeknaddaekaaW.PrintWords Go.Proofs.YtbdgeknaddaekaaW.PrintLast Go.Proofs.YtbdgeknaddaekaaW.PrintMore
set_option linter.unusedVariables false
set_option linter.unusedSimpArgs false

/-! ### products -/
def prodW : List Int → Int → Int
  | [], s => s
  | x :: xs, s => prodW xs (wrap64 (s * x))
theorem agProduct_l (l : List Int) (hb : l.length ≤ 1048576) (d : Nat) : ∀ (i : Nat) (s : Int), i + d = l.length → Ev (fun k => spec_agProduct.l0 k s l (l.length : Int) (i : Int)) (prodW (l.drop i) s) := by
  induction d with
  | zero =>
    intro i s hi
    exact Ev.step (f := fun _ => some s) (fun k => by simp only [spec_agProduct.l0]; rw [if_neg (by omega)]) (Ev.same (Ev.now _) (by rw [List.drop_of_length_le (by omega)]; rfl))
  | succ d ih =>
    intro i s hi
    have ew : wrap64 ((i : Int) + 1) = ((i + 1 : Nat) : Int) := by rw [w64 (by omega) (by omega)]; omega
    refine Ev.step (f := fun k => spec_agProduct.l0 k (wrap64 (s * rd l (i : Int))) l (l.length : Int) ((i + 1 : Nat) : Int)) (fun k => ?_) (Ev.same (ih (i + 1) _ (by omega)) (by rw [drop_rd l i (by omega)]; rfl))
    simp only [spec_agProduct.l0]; rw [if_pos (by omega), if_pos (by omega), if_pos (by omega), ew]
theorem agProduct_f (l : List Int) (hb : l.length ≤ 1048576) : Ev (fun k => spec_agProduct.f k l) (prodW l 1) := Ev.same (agProduct_l l hb l.length 0 _ (by omega)) (by simp)
theorem product_l (l : List Int) (hb : l.length ≤ 1048576) (d : Nat) : ∀ (i : Nat) (s : Int), i + d = l.length → Ev (fun k => impl_product.l0 k s l (l.length : Int) (i : Int)) (prodW (l.drop i) s) := by
  induction d with
  | zero =>
    intro i s hi
    exact Ev.step (f := fun _ => some s) (fun k => by simp only [impl_product.l0]; rw [if_neg (by omega)]) (Ev.same (Ev.now _) (by rw [List.drop_of_length_le (by omega)]; rfl))
  | succ d ih =>
    intro i s hi
    have ew : wrap64 ((i : Int) + 1) = ((i + 1 : Nat) : Int) := by rw [w64 (by omega) (by omega)]; omega
    refine Ev.step (f := fun k => impl_product.l0 k (wrap64 (s * rd l (i : Int))) l (l.length : Int) ((i + 1 : Nat) : Int)) (fun k => ?_) (Ev.same (ih (i + 1) _ (by omega)) (by rw [drop_rd l i (by omega)]; rfl))
    simp only [impl_product.l0]; rw [if_pos (by omega), if_pos (by omega), if_pos (by omega), ew]
theorem product_f (l : List Int) (hb : l.length ≤ 1048576) : Ev (fun k => impl_product.f k l) (prodW l 1) := Ev.same (product_l l hb l.length 0 _ (by omega)) (by simp)

end Go.Proofs.Ytbdgeknaddaekaa.P
