import Derived.Test.YthhbkmpipmckkaaLAges
import Derived.Test.YthhbkmpipmckkaaLBase
import Derived.Test.YthhbkmpipmckkaaP10
namespace Go.Proofs.Ythhbkmpipmckkaa.P
open Go.RowKit Go.Proofs.YthhbkmpipmckkaaW.PrintWords Go.Proofs.YthhbkmpipmckkaaW.PrintLast Go.Proofs.YthhbkmpipmckkaaW.PrintMore
set_option linter.unusedVariables false
set_option linter.unusedSimpArgs false

/-! ### sums -/
def sumW : List Int → Int → Int
  | [], s => s
  | x :: xs, s => sumW xs (wrap64 (s + x))
theorem agSum_l (l : List Int) (hb : l.length ≤ 1048576) (d : Nat) : ∀ (i : Nat) (s : Int), i + d = l.length → Ev (fun k => spec_agSum.l0 k s l (l.length : Int) (i : Int)) (sumW (l.drop i) s) := by
  induction d with
  | zero =>
    intro i s hi
    exact Ev.step (f := fun _ => some s) (fun k => by simp only [spec_agSum.l0]; rw [if_neg (by omega)]) (Ev.same (Ev.now _) (by rw [List.drop_of_length_le (by omega)]; rfl))
  | succ d ih =>
    intro i s hi
    have ew : wrap64 ((i : Int) + 1) = ((i + 1 : Nat) : Int) := by rw [w64 (by omega) (by omega)]; omega
    refine Ev.step (f := fun k => spec_agSum.l0 k (wrap64 (s + rd l (i : Int))) l (l.length : Int) ((i + 1 : Nat) : Int)) (fun k => ?_) (Ev.same (ih (i + 1) _ (by omega)) (by rw [drop_rd l i (by omega)]; rfl))
    simp only [spec_agSum.l0]; rw [if_pos (by omega), if_pos (by omega), if_pos (by omega), ew]
theorem agSum_f (l : List Int) (hb : l.length ≤ 1048576) : Ev (fun k => spec_agSum.f k l) (sumW l 0) := Ev.same (agSum_l l hb l.length 0 _ (by omega)) (by simp)
theorem total_l (l : List Int) (hb : l.length ≤ 1048576) (d : Nat) : ∀ (i : Nat) (s : Int), i + d = l.length → Ev (fun k => impl_total.l0 k s l (l.length : Int) (i : Int)) (sumW (l.drop i) s) := by
  induction d with
  | zero =>
    intro i s hi
    exact Ev.step (f := fun _ => some s) (fun k => by simp only [impl_total.l0]; rw [if_neg (by omega)]) (Ev.same (Ev.now _) (by rw [List.drop_of_length_le (by omega)]; rfl))
  | succ d ih =>
    intro i s hi
    have ew : wrap64 ((i : Int) + 1) = ((i + 1 : Nat) : Int) := by rw [w64 (by omega) (by omega)]; omega
    refine Ev.step (f := fun k => impl_total.l0 k (wrap64 (s + rd l (i : Int))) l (l.length : Int) ((i + 1 : Nat) : Int)) (fun k => ?_) (Ev.same (ih (i + 1) _ (by omega)) (by rw [drop_rd l i (by omega)]; rfl))
    simp only [impl_total.l0]; rw [if_pos (by omega), if_pos (by omega), if_pos (by omega), ew]
theorem total_f (l : List Int) (hb : l.length ≤ 1048576) : Ev (fun k => impl_total.f k l) (sumW l 0) := Ev.same (total_l l hb l.length 0 _ (by omega)) (by simp)
theorem sumW_eq (l : List Int) : ∀ s, (∀ x ∈ l, -1000000 ≤ x ∧ x ≤ 1000000) → -4611686018427387904 + 1000000 * (l.length : Int) ≤ s → s + 1000000 * (l.length : Int) ≤ 4611686018427387904 → sumW l s = s + l.sum := by
  induction l with
  | nil => intro s _ _ _; simp [sumW]
  | cons x xs ih =>
    intro s h h3 h4
    have hx := h x (by simp)
    simp only [List.length_cons] at h3 h4
    simp only [sumW]
    rw [w64 (by omega) (by omega), ih (s + x) (fun y hy => h y (by simp [hy])) (by omega) (by omega)]
    simp; omega

end Go.Proofs.Ythhbkmpipmckkaa.P
