import Derived.Test.YtbdgeknaddaekaaLAges
import Derived.Test.YtbdgeknaddaekaaLBase
import Derived.Test.YtbdgeknaddaekaaLFirsty
import Derived.Test.YtbdgeknaddaekaaLInyears
import Derived.Test.YtbdgeknaddaekaaLRange
import Derived.Test.YtbdgeknaddaekaaLSum
import Derived.Test.YtbdgeknaddaekaaLWho
import Derived.Test.YtbdgeknaddaekaaLYears
import Derived.Test.YtbdgeknaddaekaaP5
namespace Go.Proofs.Ytbdgeknaddaekaa.P
open Go.RowKit Go.Proofs.YtbdgeknaddaekaaW.PrintWords Go.Proofs.YtbdgeknaddaekaaW.PrintLast Go.Proofs.YtbdgeknaddaekaaW.PrintMore
set_option linter.unusedVariables false
set_option linter.unusedSimpArgs false

def asQ (l : List Int) (a y : Int) : Bool := decide (sumW (inY l y) 0 = wrap64 (2 * rd (inY l y) a))
def asOk (l : List Int) (a : Int) : Prop := whoB l a = true ∧ (l.length : Int) ≠ 1
instance (l : List Int) (a : Int) : Decidable (asOk l a) := inferInstanceAs (Decidable (_ ∧ _))
def asOf (l : List Int) (a : Int) : Int × Bool := if asOk l a then firstOf (asQ l a) (loY l) (nY l) else (0, false)
theorem specAS_f (l : List Int) (a : Int) : Ev (fun k => spec_YearsAsSum.f k l a) (asOf l a) := by
  have bad : ∀ (h : ¬ asOk l a) (c : Bool) (hc : c = true), Ev (fun k => spec_YearsAsSum.j0 k l a c) (asOf l a) := by
    intro h c hc
    subst hc
    exact Ev.step (f := fun _ => some (0, false)) (fun k => by simp only [spec_YearsAsSum.j0, if_true]) (Ev.same (Ev.now _) (by unfold asOf; rw [if_neg h]))
  refine Ev.congr (fun k => by unfold spec_YearsAsSum.f; rfl) (Ev.bind (agWho_f l a) ?_)
  cases hw : whoB l a with
  | true =>
    obtain ⟨hg, a0, a1⟩ := who_good hw
    have hb := range_bounds hg
    have hl := good_len hg
    refine Ev.if_pos rfl ?_
    by_cases h1 : (l.length : Int) = 1
    · exact bad (fun h => h.2 h1) _ (by simpa using h1)
    · refine Ev.step (fun k => by simp only [spec_YearsAsSum.j0]; rw [if_neg (by simpa using h1)]) (Ev.bind (agRange_f hg) (Ev.same (loop_first (g := fun k y => spec_YearsAsSum.l0 k l a (hiY l) y) (q := asQ l a) (lo := loY l) (hi := hiY l) (fun y r h0 h1 h2 => ?_) ?_ (nY l) _ (Int.le_refl _) (nY_eq hg).1) (by unfold asOf; rw [if_pos ⟨hw, h1⟩])))
      · have ew : wrap64 (y + 1) = y + 1 := w64 (by omega) (by omega)
        refine Ev.step (fun k => by simp only [spec_YearsAsSum.l0]; rw [if_pos h1, ew]) (Ev.bind (agIn_f l y (by omega)) (Ev.bind (agSum_f (inY l y) (by rw [inY_length]; omega)) (Ev.if_pos a0 (Ev.if_pos (show a < ((inY l y).length : Int) by rw [inY_length]; exact a1) ?_))))
        by_cases h : sumW (inY l y) 0 = wrap64 (2 * rd (inY l y) a)
        · exact Ev.if_pos h (Ev.same (Ev.now _) (by simp [asQ, h]))
        · exact Ev.if_neg h (Ev.same h2 (by simp [asQ, h]))
      · exact Ev.step (f := fun _ => some (0, false)) (fun k => by simp only [spec_YearsAsSum.l0]; rw [if_neg (by omega)]) (Ev.now _)
  | false => exact Ev.if_neg (by simp) (bad (fun h => by have q := h.1; rw [hw] at q; simp at q) _ rfl)
theorem implAS_f (l : List Int) (a : Int) : Ev (fun k => impl_YearsAsSum.f k l a) (asOf l a) := by
  refine Ev.congr (fun k => by unfold impl_YearsAsSum.f; rfl) (Ev.got (areAges_f l) ?_)
  cases hg : goodB l with
  | true =>
    have hl := good_len hg
    refine Ev.if_pos rfl (Ev.got (is_f l a hg) ?_)
    cases hw : whoB l a with
    | true =>
      obtain ⟨_, a0, a1⟩ := who_good hw
      refine Ev.if_pos (by simpa using who_is hw) ?_
      by_cases h1 : (l.length : Int) = 1
      · exact Ev.if_pos h1 (Ev.same (Ev.now _) (by unfold asOf; rw [if_neg (fun h => h.2 h1)]))
      · refine Ev.if_neg h1 (Ev.same (firstY_f _ (asQ l a) hg (fun y _ _ => ?_)) (by unfold asOf; rw [if_pos ⟨hw, h1⟩]))
        refine Ev.if_pos a0 (Ev.if_pos (show a < ((inY l y).length : Int) by rw [inY_length]; exact a1) (Ev.bind (total_f (inY l y) (by rw [inY_length]; omega)) (Ev.same (Ev.now _) ?_)))
        unfold asQ
        rw [Bool.beq_eq_decide_eq]
        exact decide_eq_decide.mpr ⟨fun h => h.symm, fun h => h.symm⟩
    | false => exact Ev.if_neg (by simpa using not_who hg hw) (Ev.same (Ev.now _) (by unfold asOf; rw [if_neg (fun h => by have q := h.1; rw [hw] at q; simp at q)]))
  | false =>
    have hw : whoB l a = false := by unfold whoB; rw [hg]; rfl
    exact Ev.if_neg (by simp) (Ev.same (Ev.now _) (by unfold asOf; rw [if_neg (fun h => by have q := h.1; rw [hw] at q; simp at q)]))

end Go.Proofs.Ytbdgeknaddaekaa.P
