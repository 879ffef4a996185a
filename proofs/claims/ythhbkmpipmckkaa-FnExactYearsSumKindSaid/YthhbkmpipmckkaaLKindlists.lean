import Derived.Test.YthhbkmpipmckkaaLBase
import Derived.Test.YthhbkmpipmckkaaLKinds
import Derived.Test.YthhbkmpipmckkaaLYears
import Derived.Test.YthhbkmpipmckkaaP2
import Derived.Test.YthhbkmpipmckkaaP3
import Derived.Test.YthhbkmpipmckkaaP4
namespace Go.Proofs.Ythhbkmpipmckkaa.P
open Go.RowKit Go.Proofs.YthhbkmpipmckkaaW.PrintWords Go.Proofs.YthhbkmpipmckkaaW.PrintLast Go.Proofs.YthhbkmpipmckkaaW.PrintMore
set_option linter.unusedVariables false
set_option linter.unusedSimpArgs false

/-! ### all ages of a kind -/
theorem kiAll_f {c : Nat} (hc : c < 6) {a : ByteArray} (h : a.toList = [kLetter c]) : Ev (fun k => spec_kiAll.f k a) (coll (kV c) (fun j => j) 0 121) := by
  refine Ev.congr (fun k => by unfold spec_kiAll.f; rfl) ?_
  refine Ev.same (loop_all (g := fun k acc y => spec_kiAll.l0 k a acc y) (q := kV c) (lo := 0) (hi := 120) (fun z => z) (fun acc y r h0 h1 h2 h3 => ?_) (fun acc => ?_) 121 0 [] (Int.le_refl _) (by omega) (by simp)) (by simp)
  · have ew : wrap64 (y + 1) = y + 1 := w64 (by omega) (by omega)
    refine Ev.step (fun k => by simp only [spec_kiAll.l0]; rw [if_pos h1, ew]) (Ev.bind (specK_f hc h h0 (by omega)) ?_)
    cases hv : kV c y with
    | true => exact Ev.if_pos rfl (Ev.if_pos (by omega) (by simpa [hv] using h3))
    | false => exact Ev.if_neg (by simp) (by simpa [hv] using h3)
  · exact Ev.step (f := fun _ => some acc) (fun k => by simp only [spec_kiAll.l0]; rw [if_neg (by omega)]) (Ev.now _)
theorem kindAges_f {c : Nat} (hc : c < 6) {a : ByteArray} (h : a.toList = [kLetter c]) : Ev (fun k => impl_kindAges.f k a) (coll (kV c) (fun j => j) 0 121) := by
  refine Ev.congr (fun k => by unfold impl_kindAges.f; rfl) ?_
  refine Ev.same (loop_all (g := fun k acc y => impl_kindAges.l0 k a acc y) (q := kV c) (lo := 0) (hi := 120) (fun z => z) (fun acc y r h0 h1 h2 h3 => ?_) (fun acc => ?_) 121 0 [] (Int.le_refl _) (by omega) (by simp)) (by simp)
  · have ew : wrap64 (y + 1) = y + 1 := w64 (by omega) (by omega)
    refine Ev.step (fun k => by simp only [impl_kindAges.l0]; rw [if_pos (show y < 121 by omega), ew]) (Ev.bind (implK_f hc h h0 (by omega)) ?_)
    cases hv : kV c y with
    | true => exact Ev.if_pos rfl (Ev.if_pos (by omega) (by simpa [hv] using h3))
    | false => exact Ev.if_neg (by simp) (by simpa [hv] using h3)
  · exact Ev.step (f := fun _ => some acc) (fun k => by simp only [impl_kindAges.l0]; rw [if_neg (by omega)]) (Ev.now _)
theorem kind_cases (a : ByteArray) : kindB a = false ∨ ∃ c, c < 6 ∧ a.toList = [kLetter c] ∧ kindB a = true := by
  cases h : kindB a with
  | false => exact .inl rfl
  | true => obtain ⟨c, hc, e⟩ := kind_letter h; exact .inr ⟨c, hc, e, rfl⟩
theorem kinds_specAK (a : ByteArray) : ∃ r : List Int × Bool, r.1.length ≤ 121 ∧ Ev (fun k => spec_AgesOfKind.f k a) r ∧ Ev (fun k => impl_AgesOfKind.f k a) r := by
  rcases kind_cases a with h | ⟨c, hc, h, hk⟩
  · refine ⟨([], false), by simp, ?_, ?_⟩
    · refine Ev.congr (fun k => by unfold spec_AgesOfKind.f; rfl) ?_
      exact Ev.got (kiKind_f a) (by rw [h]; exact Ev.if_neg (show ¬ (false = true) by decide) (Ev.now _))
    · refine Ev.congr (fun k => by unfold impl_AgesOfKind.f; rfl) ?_
      exact Ev.got (isKind_f a) (by rw [h]; exact Ev.if_neg (show ¬ (false = true) by decide) (Ev.now _))
  · refine ⟨(coll (kV c) (fun j => j) 0 121, true), coll_length _ _ _ _, ?_, ?_⟩
    · refine Ev.congr (fun k => by unfold spec_AgesOfKind.f; rfl) ?_
      exact Ev.got (kiKind_f a) (by rw [hk]; exact Ev.if_pos rfl (Ev.bind (kiAll_f hc h) (Ev.now _)))
    · refine Ev.congr (fun k => by unfold impl_AgesOfKind.f; rfl) ?_
      exact Ev.got (isKind_f a) (by rw [hk]; exact Ev.if_pos rfl (Ev.bind (kindAges_f hc h) (Ev.now _)))

end Go.Proofs.Ythhbkmpipmckkaa.P
