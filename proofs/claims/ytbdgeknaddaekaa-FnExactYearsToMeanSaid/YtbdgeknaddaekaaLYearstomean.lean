import Derived.Test.YtbdgeknaddaekaaLAges
import Derived.Test.YtbdgeknaddaekaaLBase
import Derived.Test.YtbdgeknaddaekaaLFirsty
import Derived.Test.YtbdgeknaddaekaaLIn
import Derived.Test.YtbdgeknaddaekaaLInyears
import Derived.Test.YtbdgeknaddaekaaLRange
import Derived.Test.YtbdgeknaddaekaaLSum
import Derived.Test.YtbdgeknaddaekaaLYears
import Derived.Test.YtbdgeknaddaekaaP4
namespace Go.Proofs.Ytbdgeknaddaekaa.P
open Go.RowKit Go.Proofs.YtbdgeknaddaekaaW.PrintWords Go.Proofs.YtbdgeknaddaekaaW.PrintLast Go.Proofs.YtbdgeknaddaekaaW.PrintMore
set_option linter.unusedVariables false
set_option linter.unusedSimpArgs false

def tmQ (l : List Int) (n d y : Int) : Bool := decide (wrap64 (sumW (inY l y) 0 * d) = wrap64 (n * (l.length : Int)))
def tmOk (l : List Int) (n d : Int) : Prop := goodB l = true ∧ (0 ≤ n ∧ n ≤ 10000) ∧ (1 ≤ d ∧ d ≤ 100)
instance (l : List Int) (n d : Int) : Decidable (tmOk l n d) := inferInstanceAs (Decidable (_ ∧ _ ∧ _))
def tmOf (l : List Int) (n d : Int) : Int × Bool := if tmOk l n d then firstOf (tmQ l n d) (loY l) (nY l) else (0, false)
theorem specTM_f (l : List Int) (n d : Int) : Ev (fun k => spec_YearsToMean.f k l n d) (tmOf l n d) := by
  have bad : ∀ (h : ¬ tmOk l n d) (c : Bool) (hc : c = true), Ev (fun k => spec_YearsToMean.j0 k l n d c) (tmOf l n d) := by
    intro h c hc
    subst hc
    exact Ev.step (f := fun _ => some (0, false)) (fun k => by simp only [spec_YearsToMean.j0, if_true]) (Ev.same (Ev.now _) (by unfold tmOf; rw [if_neg h]))
  refine Ev.congr (fun k => by unfold spec_YearsToMean.f; rfl) (Ev.bind (agGood_f l) ?_)
  cases hg : goodB l with
  | true =>
    have hb := range_bounds hg
    have hl := good_len hg
    refine Ev.if_pos rfl (Ev.got (l1In_f n 0 10000) ?_)
    by_cases hn : 0 ≤ n ∧ n ≤ 10000
    · refine Ev.if_pos (by simpa using hn) (Ev.got (l1In_f d 1 100) ?_)
      by_cases hd : 1 ≤ d ∧ d ≤ 100
      · refine Ev.step (fun k => by simp only [spec_YearsToMean.j0]; rw [if_neg (by rw [decide_eq_true hd]; simp)]) (Ev.bind (agRange_f hg) (Ev.same (loop_first (g := fun k y => spec_YearsToMean.l0 k l n d (hiY l) y) (q := tmQ l n d) (lo := loY l) (hi := hiY l) (fun y r h0 h1 h2 => ?_) ?_ (nY l) _ (Int.le_refl _) (nY_eq hg).1) (by unfold tmOf; rw [if_pos ⟨hg, hn, hd⟩])))
        · have ew : wrap64 (y + 1) = y + 1 := w64 (by omega) (by omega)
          refine Ev.step (fun k => by simp only [spec_YearsToMean.l0]; rw [if_pos h1, ew]) (Ev.bind (agIn_f l y (by omega)) (Ev.bind (agSum_f (inY l y) (by rw [inY_length]; omega)) ?_))
          by_cases h : wrap64 (sumW (inY l y) 0 * d) = wrap64 (n * (l.length : Int))
          · exact Ev.if_pos h (Ev.same (Ev.now _) (by simp [tmQ, h]))
          · exact Ev.if_neg h (Ev.same h2 (by simp [tmQ, h]))
        · exact Ev.step (f := fun _ => some (0, false)) (fun k => by simp only [spec_YearsToMean.l0]; rw [if_neg (by omega)]) (Ev.now _)
      · exact bad (fun h => hd h.2.2) _ (by rw [decide_eq_false hd]; rfl)
    · exact Ev.if_neg (by simpa using hn) (bad (fun h => hn h.2.1) _ rfl)
  | false => exact Ev.if_neg (by simp) (bad (fun h => by have q := h.1; rw [hg] at q; simp at q) _ rfl)
theorem implTM_f (l : List Int) (n d : Int) : Ev (fun k => impl_YearsToMean.f k l n d) (tmOf l n d) := by
  refine Ev.congr (fun k => by unfold impl_YearsToMean.f; rfl) (Ev.got (areAges_f l) ?_)
  cases hg : goodB l with
  | true =>
    have hl := good_len hg
    refine Ev.if_pos rfl (Ev.got (between_f n 0 10000) ?_)
    by_cases hn : 0 ≤ n ∧ n ≤ 10000
    · refine Ev.if_pos (by simpa using hn) (Ev.got (between_f d 1 100) ?_)
      by_cases hd : 1 ≤ d ∧ d ≤ 100
      · refine Ev.if_pos (by simpa using hd) (Ev.same (firstY_f _ (tmQ l n d) hg (fun y _ _ => ?_)) (by unfold tmOf; rw [if_pos ⟨hg, hn, hd⟩]))
        exact Ev.bind (total_f (inY l y) (by rw [inY_length]; omega)) (Ev.same (Ev.now _) (by unfold tmQ; rw [inY_length, Bool.beq_eq_decide_eq]))
      · exact Ev.if_neg (by simpa using hd) (Ev.same (Ev.now _) (by unfold tmOf; rw [if_neg (fun h => hd h.2.2)]))
    · exact Ev.if_neg (by simpa using hn) (Ev.same (Ev.now _) (by unfold tmOf; rw [if_neg (fun h => hn h.2.1)]))
  | false => exact Ev.if_neg (by simp) (Ev.same (Ev.now _) (by unfold tmOf; rw [if_neg (fun h => by have q := h.1; rw [hg] at q; simp at q)]))

end Go.Proofs.Ytbdgeknaddaekaa.P
