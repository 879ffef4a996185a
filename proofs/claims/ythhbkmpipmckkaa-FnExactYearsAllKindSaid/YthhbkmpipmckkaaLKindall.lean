import Derived.Test.YthhbkmpipmckkaaLAges
import Derived.Test.YthhbkmpipmckkaaLAlly
import Derived.Test.YthhbkmpipmckkaaLBase
import Derived.Test.YthhbkmpipmckkaaLInyears
import Derived.Test.YthhbkmpipmckkaaLKindcount
import Derived.Test.YthhbkmpipmckkaaLKindlists
import Derived.Test.YthhbkmpipmckkaaLKinds
import Derived.Test.YthhbkmpipmckkaaLKindwho
import Derived.Test.YthhbkmpipmckkaaLRange
import Derived.Test.YthhbkmpipmckkaaLYears
import Derived.Test.YthhbkmpipmckkaaP11
import Derived.Test.YthhbkmpipmckkaaP2
namespace Go.Proofs.Ythhbkmpipmckkaa.P
open Go.RowKit Go.Proofs.YthhbkmpipmckkaaW.PrintWords Go.Proofs.YthhbkmpipmckkaaW.PrintLast Go.Proofs.YthhbkmpipmckkaaW.PrintMore
set_option linter.unusedVariables false
set_option linter.unusedSimpArgs false

/-! ### years in which all are of a kind -/
def akQ (c : Nat) (l : List Int) (y : Int) : Bool := cntK c (inY l y) == (l.length : Int)
theorem allK_both (l : List Int) (a : ByteArray) : ∃ r : List Int × Bool, r.1.length ≤ 1000 ∧ Ev (fun k => spec_YearsAllKind.f k l a) r ∧ Ev (fun k => impl_YearsAllKind.f k l a) r := by
  cases hg : goodB l with
  | false =>
    refine ⟨([], false), by simp, ?_, ?_⟩
    · refine Ev.congr (fun k => by unfold spec_YearsAllKind.f; rfl) ?_
      refine Ev.bind (kiBoth_f l a) ?_
      rw [hg]
      exact Ev.if_neg (show ¬ ((false && kindB a) = true) by simp) (Ev.now _)
    · refine Ev.congr (fun k => by unfold impl_YearsAllKind.f; rfl) ?_
      refine Ev.got (areAges_f l) ?_
      rw [hg]
      exact Ev.if_neg (show ¬ (false = true) by decide) (Ev.now _)
  | true =>
    have hl := good_len hg
    have hb := range_bounds hg
    have hn := nY_eq hg
    rcases kind_cases a with h | ⟨c, hc, h, hk⟩
    · refine ⟨([], false), by simp, ?_, ?_⟩
      · refine Ev.congr (fun k => by unfold spec_YearsAllKind.f; rfl) ?_
        refine Ev.bind (kiBoth_f l a) ?_
        rw [hg, h]
        exact Ev.if_neg (show ¬ ((true && false) = true) by decide) (Ev.now _)
      · refine Ev.congr (fun k => by unfold impl_YearsAllKind.f; rfl) ?_
        refine Ev.got (areAges_f l) ?_
        rw [hg]
        refine Ev.if_pos rfl (Ev.got (isKind_f a) ?_)
        rw [h]
        exact Ev.if_neg (show ¬ (false = true) by decide) (Ev.now _)
    · refine ⟨(coll (akQ c l) (fun j => j) (loY l) (nY l), true), ?_, ?_, ?_⟩
      · have := coll_length (akQ c l) (fun j => j) (nY l) (loY l)
        show (coll (akQ c l) (fun j => j) (loY l) (nY l)).length ≤ 1000
        omega
      · refine Ev.congr (fun k => by unfold spec_YearsAllKind.f; rfl) ?_
        refine Ev.bind (kiBoth_f l a) ?_
        rw [hg, hk]
        refine Ev.if_pos rfl (Ev.bind (agRange_f hg) ?_)
        refine Ev.same (loop_all (g := fun k acc y => spec_YearsAllKind.l0 k l a acc (hiY l) y) (q := akQ c l) (lo := loY l) (hi := hiY l) (fun z => (z, true)) (fun acc y r h0 h1 h2 h3 => ?_) (fun acc => ?_) (nY l) (loY l) [] (Int.le_refl _) hn.1 (by simp; omega)) (by simp)
        · have ew : wrap64 (y + 1) = y + 1 := w64 (by omega) (by omega)
          have ok := inY_ok hg h0 h1
          refine Ev.step (fun k => by simp only [spec_YearsAllKind.l0]; rw [if_pos h1, ew]) (Ev.bind (kiCount_f hc h y l hl.2 ok) ?_)
          by_cases hq : cntK c (inY l y) = (l.length : Int)
          · have e : akQ c l y = true := by unfold akQ; exact beq_iff_eq.mpr hq
            exact Ev.if_pos hq (Ev.if_pos (by omega) (by simpa [e] using h3))
          · have e : akQ c l y = false := by unfold akQ; exact beq_eq_false_iff_ne.mpr hq
            exact Ev.if_neg hq (by simpa [e] using h3)
        · exact Ev.step (f := fun _ => some (acc, true)) (fun k => by simp only [spec_YearsAllKind.l0]; rw [if_neg (by omega)]) (Ev.now _)
      · refine Ev.congr (fun k => by unfold impl_YearsAllKind.f; rfl) ?_
        refine Ev.got (areAges_f l) ?_
        rw [hg]
        refine Ev.if_pos rfl (Ev.got (isKind_f a) ?_)
        rw [hk]
        refine Ev.if_pos rfl (Ev.bind (allY_f _ (akQ c l) hg (fun y h0 h1 => ?_)) (Ev.now _))
        have ok := inY_ok hg h0 h1
        refine Ev.congr (fun k => by unfold impl_YearsAllKind_1.p; rfl) ?_
        refine Ev.bind (countOf_f hc h (inY l y) (by rw [inY_length]; exact hl.2) ok) ?_
        exact Ev.same (Ev.now _) (by unfold akQ; rw [inY_length])

end Go.Proofs.Ythhbkmpipmckkaa.P
