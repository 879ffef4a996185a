import Derived.Test.YthhbkmpipmckkaaLAges
import Derived.Test.YthhbkmpipmckkaaLAlly
import Derived.Test.YthhbkmpipmckkaaLBase
import Derived.Test.YthhbkmpipmckkaaLGoodsum
import Derived.Test.YthhbkmpipmckkaaLInyears
import Derived.Test.YthhbkmpipmckkaaLKindcount
import Derived.Test.YthhbkmpipmckkaaLKindlists
import Derived.Test.YthhbkmpipmckkaaLKinds
import Derived.Test.YthhbkmpipmckkaaLKindwho
import Derived.Test.YthhbkmpipmckkaaLRange
import Derived.Test.YthhbkmpipmckkaaLSum
import Derived.Test.YthhbkmpipmckkaaLYears
import Derived.Test.YthhbkmpipmckkaaP10
import Derived.Test.YthhbkmpipmckkaaP2
namespace Go.Proofs.Ythhbkmpipmckkaa.P
open Go.RowKit Go.Proofs.YthhbkmpipmckkaaW.PrintWords Go.Proofs.YthhbkmpipmckkaaW.PrintLast Go.Proofs.YthhbkmpipmckkaaW.PrintMore
set_option linter.unusedVariables false
set_option linter.unusedSimpArgs false

/-! ### years in which the sum is of a kind -/
theorem map_sum (y : Int) (l : List Int) : (l.map (· + y)).sum = l.sum + y * (l.length : Int) := by
  induction l with
  | nil => simp
  | cons x xs ih =>
    simp only [List.map_cons, List.sum_cons, List.length_cons, ih]
    rw [show ((xs.length + 1 : Nat) : Int) = (xs.length : Int) + 1 by omega, Int.mul_add]
    omega
theorem inY_good {l : List Int} (hg : goodB l = true) {y : Int} (h0 : loY l ≤ y) (h1 : y ≤ hiY l) : goodB (inY l y) = true := by
  have hl := good_len hg
  have ok := inY_ok hg h0 h1
  unfold goodB allB
  rw [inY_length]
  simp only [Bool.and_eq_true, decide_eq_true_eq, List.all_eq_true]
  exact ⟨by omega, fun x hx => ok x hx⟩
theorem sum_in {l : List Int} (hg : goodB l = true) {y : Int} (h0 : loY l ≤ y) (h1 : y ≤ hiY l) : sumW (inY l y) 0 = (inY l y).sum ∧ wrap64 (sumW l 0 + wrap64 (y * (l.length : Int))) = (inY l y).sum ∧ 0 ≤ (inY l y).sum ∧ (inY l y).sum ≤ 960 := by
  have hs := good_sum (inY_good hg h0 h1)
  have ht := good_sum hg
  have e : (inY l y).sum = l.sum + y * (l.length : Int) := by rw [inY_fit hg h0 h1, map_sum]
  refine ⟨hs.1, ?_, hs.2⟩
  rw [ht.1, w64 (x := y * (l.length : Int)) (by omega) (by omega), w64 (by omega) (by omega), e]
def skQ (c : Nat) (l : List Int) (y : Int) : Bool := kV c (inY l y).sum
theorem sumK_both (l : List Int) (a : ByteArray) : ∃ r : List Int × Bool, r.1.length ≤ 1000 ∧ Ev (fun k => spec_YearsSumKind.f k l a) r ∧ Ev (fun k => impl_YearsSumKind.f k l a) r := by
  cases hg : goodB l with
  | false =>
    refine ⟨([], false), by simp, ?_, ?_⟩
    · refine Ev.congr (fun k => by unfold spec_YearsSumKind.f; rfl) ?_
      refine Ev.bind (kiBoth_f l a) ?_
      rw [hg]
      exact Ev.if_neg (show ¬ ((false && kindB a) = true) by simp) (Ev.now _)
    · refine Ev.congr (fun k => by unfold impl_YearsSumKind.f; rfl) ?_
      refine Ev.got (areAges_f l) ?_
      rw [hg]
      exact Ev.if_neg (show ¬ (false = true) by decide) (Ev.now _)
  | true =>
    have hl := good_len hg
    have hb := range_bounds hg
    have hn := nY_eq hg
    rcases kind_cases a with h | ⟨c, hc, h, hk⟩
    · refine ⟨([], false), by simp, ?_, ?_⟩
      · refine Ev.congr (fun k => by unfold spec_YearsSumKind.f; rfl) ?_
        refine Ev.bind (kiBoth_f l a) ?_
        rw [hg, h]
        exact Ev.if_neg (show ¬ ((true && false) = true) by decide) (Ev.now _)
      · refine Ev.congr (fun k => by unfold impl_YearsSumKind.f; rfl) ?_
        refine Ev.got (areAges_f l) ?_
        rw [hg]
        refine Ev.if_pos rfl (Ev.got (isKind_f a) ?_)
        rw [h]
        exact Ev.if_neg (show ¬ (false = true) by decide) (Ev.now _)
    · refine ⟨(coll (skQ c l) (fun j => j) (loY l) (nY l), true), ?_, ?_, ?_⟩
      · have := coll_length (skQ c l) (fun j => j) (nY l) (loY l)
        show (coll (skQ c l) (fun j => j) (loY l) (nY l)).length ≤ 1000
        omega
      · refine Ev.congr (fun k => by unfold spec_YearsSumKind.f; rfl) ?_
        refine Ev.bind (kiBoth_f l a) ?_
        rw [hg, hk]
        refine Ev.if_pos rfl (Ev.bind (agRange_f hg) ?_)
        refine Ev.same (loop_all (g := fun k acc y => spec_YearsSumKind.l0 k l a acc (hiY l) y) (q := skQ c l) (lo := loY l) (hi := hiY l) (fun z => (z, true)) (fun acc y r h0 h1 h2 h3 => ?_) (fun acc => ?_) (nY l) (loY l) [] (Int.le_refl _) hn.1 (by simp; omega)) (by simp)
        · have ew : wrap64 (y + 1) = y + 1 := w64 (by omega) (by omega)
          obtain ⟨e1, e2, s0, s1⟩ := sum_in hg h0 h1
          refine Ev.step (fun k => by simp only [spec_YearsSumKind.l0]; rw [if_pos h1, ew]) (Ev.bind (agSum_f l (by omega)) ?_)
          rw [e2]
          refine Ev.bind (specK_f hc h s0 s1) ?_
          cases hv : kV c (inY l y).sum with
          | true => exact Ev.if_pos rfl (Ev.if_pos (by omega) (by simpa [skQ, hv] using h3))
          | false => exact Ev.if_neg (show ¬ (false = true) by decide) (by simpa [skQ, hv] using h3)
        · exact Ev.step (f := fun _ => some (acc, true)) (fun k => by simp only [spec_YearsSumKind.l0]; rw [if_neg (by omega)]) (Ev.now _)
      · refine Ev.congr (fun k => by unfold impl_YearsSumKind.f; rfl) ?_
        refine Ev.got (areAges_f l) ?_
        rw [hg]
        refine Ev.if_pos rfl (Ev.got (isKind_f a) ?_)
        rw [hk]
        refine Ev.if_pos rfl (Ev.bind (allY_f _ (skQ c l) hg (fun y h0 h1 => ?_)) (Ev.now _))
        obtain ⟨e1, e2, s0, s1⟩ := sum_in hg h0 h1
        refine Ev.congr (fun k => by unfold impl_YearsSumKind_1.p; rfl) ?_
        refine Ev.bind (total_f (inY l y) (by rw [inY_length]; omega)) ?_
        rw [e1]
        exact implK_f hc h s0 s1

end Go.Proofs.Ythhbkmpipmckkaa.P
