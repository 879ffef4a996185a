import Derived.Test.YtbdgeknaddaekaaDoorLBase
import Derived.Test.YtbdgeknaddaekaaDoorP1
namespace Go.Proofs.YtbdgeknaddaekaaDoor.P
open Go.RowKit Go.Proofs.YtbdgeknaddaekaaDoorW.PrintWords Go.Proofs.YtbdgeknaddaekaaDoorW.PrintLast Go.Proofs.YtbdgeknaddaekaaDoorW.PrintMore
set_option linter.unusedVariables false
set_option linter.unusedSimpArgs false

/-! ### a slice copied -/
theorem toInt_l (x : List Int) (hb : x.length ≤ 4611686018427387904) (d : Nat) : ∀ (i : Nat) (y : List Int), i + d = x.length → y.length = x.length → y.take i = x.take i →
    Ev (fun k => laws_toIntS.l0 k x y (i : Int)) x := by
  induction d with
  | zero =>
    intro i y hi hl ht
    refine Ev.step (f := fun _ => some y) (fun k => ?_) (Ev.same (Ev.now _) ?_)
    · simp only [laws_toIntS.l0]; rw [if_neg (by omega)]
    · rwa [List.take_of_length_le (by omega), List.take_of_length_le (by omega)] at ht
  | succ d ih =>
    intro i y hi hl ht
    have ew : wrap64 ((i : Int) + 1) = ((i + 1 : Nat) : Int) := by rw [w64 (by omega) (by omega)]; omega
    have er : rd x (i : Int) = x[i]'(by omega) := by simp [rd, List.getD_eq_getElem?_getD, List.getElem?_eq_getElem (show i < x.length by omega)]
    refine Ev.step (f := fun k => laws_toIntS.l0 k x (y.set i (x[i]'(by omega))) ((i + 1 : Nat) : Int)) (fun k => ?_) (ih (i + 1) (y.set i (x[i]'(by omega))) (by omega) (by rw [List.length_set]; exact hl) ?_)
    · simp only [laws_toIntS.l0]
      rw [if_pos (by omega), if_pos (by omega), if_pos (by omega), ew, er]; simp
    · rw [List.take_succ_eq_append_getElem (by simp; omega), List.take_succ_eq_append_getElem (by omega), List.take_set_of_le (Nat.le_refl _), ht]; simp
theorem toInt_f (x : List Int) (hb : x.length ≤ 1048576) : Ev (fun k => laws_toIntS.f k x) x := by
  refine Ev.congr (f := fun k => laws_toIntS.l0 k x (List.replicate x.length 0) 0) (fun k => ?_) (toInt_l x (by omega) x.length 0 _ (by omega) (by simp) (by simp))
  simp only [laws_toIntS.f]
  rw [if_pos (by omega), if_pos (by omega)]; simp

end Go.Proofs.YtbdgeknaddaekaaDoor.P
