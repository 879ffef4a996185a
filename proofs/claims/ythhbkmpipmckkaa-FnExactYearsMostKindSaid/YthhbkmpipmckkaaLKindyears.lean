import Derived.Test.YthhbkmpipmckkaaLAges
import Derived.Test.YthhbkmpipmckkaaLAiof
import Derived.Test.YthhbkmpipmckkaaLBase
import Derived.Test.YthhbkmpipmckkaaLFit
import Derived.Test.YthhbkmpipmckkaaLInyears
import Derived.Test.YthhbkmpipmckkaaLKindcount
import Derived.Test.YthhbkmpipmckkaaLKindlists
import Derived.Test.YthhbkmpipmckkaaLKinds
import Derived.Test.YthhbkmpipmckkaaLKindwho
import Derived.Test.YthhbkmpipmckkaaLRange
import Derived.Test.YthhbkmpipmckkaaLYears
import Derived.Test.YthhbkmpipmckkaaP2
import Derived.Test.YthhbkmpipmckkaaP8
import Derived.Test.YthhbkmpipmckkaaP9
namespace Go.Proofs.Ythhbkmpipmckkaa.P
open Go.RowKit Go.Proofs.YthhbkmpipmckkaaW.PrintWords Go.Proofs.YthhbkmpipmckkaaW.PrintLast Go.Proofs.YthhbkmpipmckkaaW.PrintMore
set_option linter.unusedVariables false
set_option linter.unusedSimpArgs false

/-! ### kinds over years -/
theorem cntK_both (l : List Int) (y : Int) (a : ByteArray) : ∃ r : Int × Bool, Ev (fun k => spec_CountOfKind.f k l y a) r ∧ Ev (fun k => impl_CountOfKind.f k l y a) r := by
  rcases kind_cases a with h | ⟨c, hc, h, hk⟩
  · refine ⟨(0, false), ?_, ?_⟩
    · refine Ev.congr (fun k => by unfold spec_CountOfKind.f; rfl) ?_
      refine Ev.bind (kiBoth_f l a) ?_
      rw [h]
      exact Ev.if_neg (show ¬ ((goodB l && false) = true) by simp) (Ev.now _)
    · refine Ev.congr (fun k => by unfold impl_CountOfKind.f; rfl) ?_
      refine Ev.bind (implAI_f l y) ?_
      cases hf : (aiOf l y).2 with
      | true =>
        refine Ev.if_pos rfl (Ev.got (isKind_f a) ?_)
        rw [h]
        exact Ev.if_neg (show ¬ (false = true) by decide) (Ev.now _)
      | false => exact Ev.if_neg (show ¬ (false = true) by decide) (Ev.now _)
  · cases hf : fitB l y with
    | true =>
      have hg := (fit_good hf).1
      have hl := good_len hg
      have ok := inY_ok hg (fit_good hf).2.1 (fit_good hf).2.2
      refine ⟨(cntK c (inY l y), true), ?_, ?_⟩
      · refine Ev.congr (fun k => by unfold spec_CountOfKind.f; rfl) ?_
        refine Ev.bind (kiBoth_f l a) ?_
        rw [hg, hk]
        refine Ev.if_pos rfl (Ev.bind (agFit_f l y) ?_)
        rw [hf]
        exact Ev.if_pos rfl (Ev.bind (kiCount_f hc h y l hl.2 ok) (Ev.now _))
      · refine Ev.congr (fun k => by unfold impl_CountOfKind.f; rfl) ?_
        refine Ev.bind (implAI_f l y) ?_
        have e : aiOf l y = (inY l y, true) := by unfold aiOf; rw [if_pos hf]
        rw [e]
        refine Ev.if_pos rfl (Ev.got (isKind_f a) ?_)
        rw [hk]
        exact Ev.if_pos rfl (Ev.bind (countOf_f hc h (inY l y) (by rw [inY_length]; exact hl.2) ok) (Ev.now _))
    | false =>
      refine ⟨(0, false), ?_, ?_⟩
      · refine Ev.congr (fun k => by unfold spec_CountOfKind.f; rfl) ?_
        refine Ev.bind (kiBoth_f l a) ?_
        rw [hk]
        cases hg : goodB l with
        | true =>
          refine Ev.if_pos rfl (Ev.bind (agFit_f l y) ?_)
          rw [hf]
          exact Ev.if_neg (show ¬ (false = true) by decide) (Ev.now _)
        | false => exact Ev.if_neg (show ¬ ((false && true) = true) by decide) (Ev.now _)
      · refine Ev.congr (fun k => by unfold impl_CountOfKind.f; rfl) ?_
        refine Ev.bind (implAI_f l y) ?_
        have e : aiOf l y = ([], false) := by unfold aiOf; rw [if_neg (by rw [hf]; decide)]
        rw [e]
        exact Ev.if_neg (show ¬ (false = true) by decide) (Ev.now _)
/-- The first years with the most, and how many. -/
def mostF (f : Int → Int) : Nat → Int → Int → Int → Int × Int
  | 0, _, b, m => (b, m)
  | d + 1, y, b, m => if f y > m then mostF f d (y + 1) y (f y) else mostF f d (y + 1) b m
theorem specMK_l {c : Nat} (hc : c < 6) {a : ByteArray} (h : a.toList = [kLetter c]) {l : List Int} (hg : goodB l = true) (d : Nat) : ∀ (y b m : Int), loY l ≤ y → y + d = hiY l + 1 → Ev (fun k => spec_YearsMostKind.l0 k l a (hiY l) b m y) ((mostF (fun y => cntK c (inY l y)) d y b m).1, (mostF (fun y => cntK c (inY l y)) d y b m).2, true) := by
  have hb := range_bounds hg
  have hl := good_len hg
  induction d with
  | zero =>
    intro y b m h0 h1
    exact Ev.step (f := fun _ => some (b, m, true)) (fun k => by simp only [spec_YearsMostKind.l0]; rw [if_neg (by omega)]) (Ev.now _)
  | succ d ih =>
    intro y b m h0 h1
    have ew : wrap64 (y + 1) = y + 1 := w64 (by omega) (by omega)
    have ok := inY_ok hg h0 (show y ≤ hiY l by omega)
    refine Ev.step (fun k => by simp only [spec_YearsMostKind.l0]; rw [if_pos (show y ≤ hiY l by omega), ew]) (Ev.bind (kiCount_f hc h y l hl.2 ok) ?_)
    simp only [mostF]
    by_cases hm : cntK c (inY l y) > m
    · rw [if_pos hm]; exact Ev.if_pos hm (ih (y + 1) _ _ (by omega) (by omega))
    · rw [if_neg hm]; exact Ev.if_neg hm (ih (y + 1) _ _ (by omega) (by omega))
theorem implMK_l {c : Nat} (hc : c < 6) {a : ByteArray} (h : a.toList = [kLetter c]) {l : List Int} (hg : goodB l = true) (d : Nat) : ∀ (y b m : Int), loY l ≤ y → y + d = hiY l + 1 → Ev (fun k => impl_YearsMostKind.l0 k l a (hiY l) b m y) ((mostF (fun y => cntK c (inY l y)) d y b m).1, (mostF (fun y => cntK c (inY l y)) d y b m).2, true) := by
  have hb := range_bounds hg
  have hl := good_len hg
  induction d with
  | zero =>
    intro y b m h0 h1
    exact Ev.step (f := fun _ => some (b, m, true)) (fun k => by simp only [impl_YearsMostKind.l0]; rw [if_neg (by omega)]) (Ev.now _)
  | succ d ih =>
    intro y b m h0 h1
    have ew : wrap64 (y + 1) = y + 1 := w64 (by omega) (by omega)
    have ok := inY_ok hg h0 (show y ≤ hiY l by omega)
    refine Ev.step (fun k => by simp only [impl_YearsMostKind.l0]; rw [if_pos (show y ≤ hiY l by omega), ew]) (Ev.bind (inYears_f l y (by omega)) (Ev.bind (countOf_f hc h (inY l y) (by rw [inY_length]; exact hl.2) ok) ?_))
    simp only [mostF]
    by_cases hm : cntK c (inY l y) > m
    · rw [if_pos hm]; exact Ev.if_pos hm (ih (y + 1) _ _ (by omega) (by omega))
    · rw [if_neg hm]; exact Ev.if_neg hm (ih (y + 1) _ _ (by omega) (by omega))
theorem mostF_first (f : Int → Int) (d : Nat) (y b b' : Int) (hd : 1 ≤ d) (h : f y > -1) : mostF f d y b (-1) = mostF f d y b' (-1) := by
  obtain ⟨e, rfl⟩ : ∃ e, d = e + 1 := ⟨d - 1, by omega⟩
  simp only [mostF]
  rw [if_pos h, if_pos h]
theorem mostK_both (l : List Int) (a : ByteArray) : ∃ r : Int × Int × Bool, Ev (fun k => spec_YearsMostKind.f k l a) r ∧ Ev (fun k => impl_YearsMostKind.f k l a) r := by
  have bad : Ev (fun k => impl_YearsMostKind.j0 k l a true) ((0 : Int), (0 : Int), false) := Ev.step (f := fun _ => some (0, 0, false)) (fun k => by simp only [impl_YearsMostKind.j0, if_true]) (Ev.now _)
  cases hg : goodB l with
  | false =>
    refine ⟨(0, 0, false), ?_, ?_⟩
    · refine Ev.congr (fun k => by unfold spec_YearsMostKind.f; rfl) ?_
      refine Ev.bind (kiBoth_f l a) ?_
      rw [hg]
      exact Ev.if_neg (show ¬ ((false && kindB a) = true) by simp) (Ev.now _)
    · refine Ev.congr (fun k => by unfold impl_YearsMostKind.f; rfl) ?_
      refine Ev.got (areAges_f l) ?_
      rw [hg]
      exact Ev.if_neg (show ¬ (false = true) by decide) bad
  | true =>
    have hl := good_len hg
    have hb := range_bounds hg
    have hn := nY_eq hg
    rcases kind_cases a with h | ⟨c, hc, h, hk⟩
    · refine ⟨(0, 0, false), ?_, ?_⟩
      · refine Ev.congr (fun k => by unfold spec_YearsMostKind.f; rfl) ?_
        refine Ev.bind (kiBoth_f l a) ?_
        rw [hg, h]
        exact Ev.if_neg (show ¬ ((true && false) = true) by decide) (Ev.now _)
      · refine Ev.congr (fun k => by unfold impl_YearsMostKind.f; rfl) ?_
        refine Ev.got (areAges_f l) ?_
        rw [hg]
        refine Ev.if_pos rfl (Ev.got (isKind_f a) ?_)
        rw [h]
        exact bad
    · refine ⟨((mostF (fun y => cntK c (inY l y)) (nY l) (loY l) (loY l) (-1)).1, (mostF (fun y => cntK c (inY l y)) (nY l) (loY l) (loY l) (-1)).2, true), ?_, ?_⟩
      · refine Ev.congr (fun k => by unfold spec_YearsMostKind.f; rfl) ?_
        refine Ev.bind (kiBoth_f l a) ?_
        rw [hg, hk]
        exact Ev.if_pos rfl (Ev.bind (agRange_f hg) (specMK_l hc h hg (nY l) (loY l) (loY l) (-1) (Int.le_refl _) hn.1))
      · refine Ev.congr (fun k => by unfold impl_YearsMostKind.f; rfl) ?_
        refine Ev.got (areAges_f l) ?_
        rw [hg]
        refine Ev.if_pos rfl (Ev.got (isKind_f a) ?_)
        rw [hk]
        rw [mostF_first (fun y => cntK c (inY l y)) (nY l) (loY l) (loY l) 0 (by omega) (by show cntK c (inY l (loY l)) > -1; unfold cntK; omega)]
        refine Ev.step (f := fun k => (impl_fitYears.f l).bind fun q => impl_YearsMostKind.l0 k l a q.2 0 (-1) q.1) (fun k => by simp only [impl_YearsMostKind.j0]; rfl) ?_
        exact Ev.got (fitYears_f hg) (implMK_l hc h hg (nY l) (loY l) 0 (-1) (Int.le_refl _) hn.1)

end Go.Proofs.Ythhbkmpipmckkaa.P
