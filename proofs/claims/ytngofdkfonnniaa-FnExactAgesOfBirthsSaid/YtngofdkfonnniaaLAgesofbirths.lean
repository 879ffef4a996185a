import Derived.Test.YtngofdkfonnniaaLAges
import Derived.Test.YtngofdkfonnniaaLBase
import Derived.Test.YtngofdkfonnniaaLIn
import Derived.Test.YtngofdkfonnniaaP4
import Derived.Test.YtngofdkfonnniaaP5
namespace Go.Proofs.Ytngofdkfonnniaa.P
open Go.RowKit Go.Proofs.YtngofdkfonnniaaW.PrintWords Go.Proofs.YtngofdkfonnniaaW.PrintLast Go.Proofs.YtngofdkfonnniaaW.PrintMore
set_option linter.unusedVariables false
set_option linter.unusedSimpArgs false

def abL (l : List Int) : List Int × Bool := if goodB l = true then (l, true) else ([], false)
theorem specAB_l (y : Int) (l : List Int) (hb : l.length ≤ 1048576) (d : Nat) : ∀ (i : Nat) (acc : List Int), i + d = l.length → acc.length + d ≤ 1048576 → Ev (fun k => spec_AgesOfBirths.l0 k y acc l (l.length : Int) (i : Int)) (abL (acc ++ (l.drop i).map (fun x => wrap64 (y - x)))) := by
  induction d with
  | zero =>
    intro i acc hi ha
    refine Ev.step (fun k => by simp only [spec_AgesOfBirths.l0]; rw [if_neg (by omega)]) (Ev.bind (agGood_f acc) ?_)
    rw [List.drop_of_length_le (by omega)]
    simp only [List.map_nil, List.append_nil]
    cases hg : goodB acc with
    | true => exact Ev.if_pos rfl (Ev.same (Ev.now _) (by unfold abL; rw [hg]; rfl))
    | false => exact Ev.if_neg (by simp) (Ev.same (Ev.now _) (by unfold abL; rw [hg]; rfl))
  | succ d ih =>
    intro i acc hi ha
    have ew : wrap64 ((i : Int) + 1) = ((i + 1 : Nat) : Int) := by rw [w64 (by omega) (by omega)]; omega
    refine Ev.step (f := fun k => spec_AgesOfBirths.l0 k y (acc ++ [wrap64 (y - rd l (i : Int))]) l (l.length : Int) ((i + 1 : Nat) : Int)) (fun k => ?_) (Ev.same (ih (i + 1) _ (by omega) (by simp; omega)) (by rw [drop_rd l i (by omega)]; simp))
    simp only [spec_AgesOfBirths.l0]; rw [if_pos (by omega), if_pos (by omega), if_pos (by omega), if_pos (by omega), ew]
theorem implAB_l (y : Int) (l : List Int) (hb : l.length ≤ 1048576) (d : Nat) : ∀ (i : Nat) (acc : List Int), i + d = l.length → acc.length + d ≤ 1048576 → Ev (fun k => impl_AgesOfBirths.l0 k y acc l (l.length : Int) (i : Int)) (abL (acc ++ (l.drop i).map (fun x => wrap64 (y - x)))) := by
  induction d with
  | zero =>
    intro i acc hi ha
    refine Ev.step (fun k => by simp only [impl_AgesOfBirths.l0]; rw [if_neg (by omega)]) (Ev.got (areAges_f acc) ?_)
    rw [List.drop_of_length_le (by omega)]
    simp only [List.map_nil, List.append_nil]
    cases hg : goodB acc with
    | true => exact Ev.if_pos rfl (Ev.same (Ev.now _) (by unfold abL; rw [hg]; rfl))
    | false => exact Ev.if_neg (by simp) (Ev.same (Ev.now _) (by unfold abL; rw [hg]; rfl))
  | succ d ih =>
    intro i acc hi ha
    have ew : wrap64 ((i : Int) + 1) = ((i + 1 : Nat) : Int) := by rw [w64 (by omega) (by omega)]; omega
    refine Ev.step (f := fun k => impl_AgesOfBirths.l0 k y (acc ++ [wrap64 (y - rd l (i : Int))]) l (l.length : Int) ((i + 1 : Nat) : Int)) (fun k => ?_) (Ev.same (ih (i + 1) _ (by omega) (by simp; omega)) (by rw [drop_rd l i (by omega)]; simp))
    simp only [impl_AgesOfBirths.l0]; rw [if_pos (by omega), if_pos (by omega), if_pos (by omega), if_pos (by omega), ew]
def abOk (l : List Int) (y : Int) : Prop := (1 ≤ (l.length : Int) ∧ (l.length : Int) ≤ 8) ∧ allB l 0 3000 = true ∧ (0 ≤ y ∧ y ≤ 3000)
instance (l : List Int) (y : Int) : Decidable (abOk l y) := inferInstanceAs (Decidable (_ ∧ _ ∧ _))
def abOf (l : List Int) (y : Int) : List Int × Bool := if abOk l y then abL (l.map (fun x => wrap64 (y - x))) else ([], false)
theorem abOf_length (l : List Int) (y : Int) : (abOf l y).1.length ≤ 8 := by
  unfold abOf abL
  split
  · split
    · rename_i h; have := good_len h; simpa using this.2
    · simp
  · simp
theorem specAB_f (l : List Int) (y : Int) : Ev (fun k => spec_AgesOfBirths.f k l y) (abOf l y) := by
  have bad : ∀ (h : ¬ abOk l y) (c : Bool) (hc : c = true), Ev (fun k => spec_AgesOfBirths.j0 k l y c) (abOf l y) := by
    intro h c hc
    subst hc
    exact Ev.step (f := fun _ => some ([], false)) (fun k => by simp only [spec_AgesOfBirths.j0, if_true]) (Ev.same (Ev.now _) (by unfold abOf; rw [if_neg h]))
  refine Ev.congr (fun k => by unfold spec_AgesOfBirths.f; rfl) (Ev.got (l1In_f (l.length : Int) 1 8) ?_)
  by_cases h1 : 1 ≤ (l.length : Int) ∧ (l.length : Int) ≤ 8
  · refine Ev.if_pos (by simpa using h1) (Ev.bind (l1All_f l 0 3000 (by omega)) ?_)
    cases h2 : allB l 0 3000 with
    | true =>
      refine Ev.if_pos rfl (Ev.got (l1In_f y 0 3000) ?_)
      by_cases h3 : 0 ≤ y ∧ y ≤ 3000
      · refine Ev.step (f := fun k => spec_AgesOfBirths.l0 k y [] l (l.length : Int) 0) (fun k => ?_) (Ev.same (specAB_l y l (by omega) l.length 0 [] (by omega) (by simp; omega)) (by unfold abOf; rw [if_pos ⟨h1, h2, h3⟩]; simp))
        simp only [spec_AgesOfBirths.j0]; rw [if_neg (by rw [decide_eq_true h3]; simp)]
      · exact bad (fun h => h3 h.2.2) _ (by rw [decide_eq_false h3]; rfl)
    | false => exact Ev.if_neg (by simp) (bad (fun h => by have q := h.2.1; rw [h2] at q; simp at q) _ rfl)
  · exact Ev.if_neg (by simpa using h1) (bad (fun h => h1 h.1) _ rfl)
theorem implAB_f (l : List Int) (y : Int) : Ev (fun k => impl_AgesOfBirths.f k l y) (abOf l y) := by
  have bad : ∀ (h : ¬ abOk l y) (c : Bool) (hc : c = true), Ev (fun k => impl_AgesOfBirths.j0 k l y c) (abOf l y) := by
    intro h c hc
    subst hc
    exact Ev.step (f := fun _ => some ([], false)) (fun k => by simp only [impl_AgesOfBirths.j0, if_true]) (Ev.same (Ev.now _) (by unfold abOf; rw [if_neg h]))
  refine Ev.congr (fun k => by unfold impl_AgesOfBirths.f; rfl) (Ev.got (between_f (l.length : Int) 1 8) ?_)
  by_cases h1 : 1 ≤ (l.length : Int) ∧ (l.length : Int) ≤ 8
  · refine Ev.if_pos (by simpa using h1) (Ev.got (areBetween_f l 0 3000) ?_)
    cases h2 : allB l 0 3000 with
    | true =>
      refine Ev.if_pos rfl (Ev.got (between_f y 0 3000) ?_)
      by_cases h3 : 0 ≤ y ∧ y ≤ 3000
      · refine Ev.step (f := fun k => impl_AgesOfBirths.l0 k y [] l (l.length : Int) 0) (fun k => ?_) (Ev.same (implAB_l y l (by omega) l.length 0 [] (by omega) (by simp; omega)) (by unfold abOf; rw [if_pos ⟨h1, h2, h3⟩]; simp))
        simp only [impl_AgesOfBirths.j0]; rw [if_neg (by rw [decide_eq_true h3]; simp)]
      · exact bad (fun h => h3 h.2.2) _ (by rw [decide_eq_false h3]; rfl)
    | false => exact Ev.if_neg (by simp) (bad (fun h => by have q := h.2.1; rw [h2] at q; simp at q) _ rfl)
  · exact Ev.if_neg (by simpa using h1) (bad (fun h => h1 h.1) _ rfl)

end Go.Proofs.Ytngofdkfonnniaa.P
