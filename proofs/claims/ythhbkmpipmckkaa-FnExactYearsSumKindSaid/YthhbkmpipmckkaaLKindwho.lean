import Derived.Test.YthhbkmpipmckkaaLAges
import Derived.Test.YthhbkmpipmckkaaLBase
import Derived.Test.YthhbkmpipmckkaaLKindlists
import Derived.Test.YthhbkmpipmckkaaLKinds
import Derived.Test.YthhbkmpipmckkaaLYears
import Derived.Test.YthhbkmpipmckkaaP2
import Derived.Test.YthhbkmpipmckkaaP5
import Derived.Test.YthhbkmpipmckkaaP6
namespace Go.Proofs.Ythhbkmpipmckkaa.P
open Go.RowKit Go.Proofs.YthhbkmpipmckkaaW.PrintWords Go.Proofs.YthhbkmpipmckkaaW.PrintLast Go.Proofs.YthhbkmpipmckkaaW.PrintMore
set_option linter.unusedVariables false
set_option linter.unusedSimpArgs false

/-! ### people of a kind -/
theorem kiBoth_f (l : List Int) (a : ByteArray) : Ev (fun k => spec_kiBoth.f k l a) (goodB l && kindB a) := by
  refine Ev.congr (fun k => by unfold spec_kiBoth.f; rfl) ?_
  refine Ev.bind (agGood_f l) ?_
  cases goodB l with
  | true => exact Ev.if_pos rfl (Ev.got (kiKind_f a) (Ev.now _))
  | false => exact Ev.if_neg (show ¬ (false = true) by decide) (Ev.now _)
def whQ (c : Nat) (l : List Int) (i : Int) : Bool := kV c (rd l i)
theorem whoK_both (l : List Int) (a : ByteArray) : ∃ r : List Int × Bool, r.1.length ≤ 1000 ∧ Ev (fun k => spec_WhoOfKind.f k l a) r ∧ Ev (fun k => impl_WhoOfKind.f k l a) r := by
  have bad : Ev (fun k => impl_WhoOfKind.j0 k l a true) (([] : List Int), false) := Ev.step (f := fun _ => some ([], false)) (fun k => by simp only [impl_WhoOfKind.j0, if_true]) (Ev.now _)
  cases hg : goodB l with
  | false =>
    refine ⟨([], false), by simp, ?_, ?_⟩
    · refine Ev.congr (fun k => by unfold spec_WhoOfKind.f; rfl) ?_
      refine Ev.bind (kiBoth_f l a) ?_
      rw [hg]
      exact Ev.if_neg (show ¬ ((false && kindB a) = true) by simp) (Ev.now _)
    · refine Ev.congr (fun k => by unfold impl_WhoOfKind.f; rfl) ?_
      refine Ev.got (areAges_f l) ?_
      rw [hg]
      exact Ev.if_neg (show ¬ (false = true) by decide) bad
  | true =>
    have hl := good_len hg
    rcases kind_cases a with h | ⟨c, hc, h, hk⟩
    · refine ⟨([], false), by simp, ?_, ?_⟩
      · refine Ev.congr (fun k => by unfold spec_WhoOfKind.f; rfl) ?_
        refine Ev.bind (kiBoth_f l a) ?_
        rw [hg, h]
        exact Ev.if_neg (show ¬ ((true && false) = true) by decide) (Ev.now _)
      · refine Ev.congr (fun k => by unfold impl_WhoOfKind.f; rfl) ?_
        refine Ev.got (areAges_f l) ?_
        rw [hg]
        refine Ev.if_pos rfl (Ev.got (isKind_f a) ?_)
        rw [h]
        exact bad
    · refine ⟨(coll (whQ c l) (fun j => j) 0 l.length, true), ?_, ?_, ?_⟩
      · have := coll_length (whQ c l) (fun j => j) l.length 0
        show (coll (whQ c l) (fun j => j) 0 l.length).length ≤ 1000
        omega
      · refine Ev.congr (fun k => by unfold spec_WhoOfKind.f; rfl) ?_
        refine Ev.bind (kiBoth_f l a) ?_
        rw [hg, hk]
        refine Ev.if_pos rfl ?_
        refine Ev.same (loop_all (g := fun k acc y => spec_WhoOfKind.l0 k a acc l (l.length : Int) y) (q := whQ c l) (lo := 0) (hi := (l.length : Int) - 1) (fun z => (z, true)) (fun acc y r h0 h1 h2 h3 => ?_) (fun acc => ?_) l.length 0 [] (Int.le_refl _) (by omega) (by simp; omega)) (by simp)
        · have ew : wrap64 (y + 1) = y + 1 := w64 (by omega) (by omega)
          have hm := good_mem hg (rd_mem h0 (show y < (l.length : Int) by omega))
          have h9 : rd l y ≤ 960 := by omega
          refine Ev.step (fun k => by simp only [spec_WhoOfKind.l0]; rw [if_pos (show y < (l.length : Int) by omega), if_pos h0, if_pos (show y < (l.length : Int) by omega), ew]) (Ev.bind (specK_f hc h hm.1 h9) ?_)
          cases hv : kV c (rd l y) with
          | true => exact Ev.if_pos rfl (Ev.if_pos (by omega) (by simpa [whQ, hv] using h3))
          | false => exact Ev.if_neg (by simp) (by simpa [whQ, hv] using h3)
        · exact Ev.step (f := fun _ => some (acc, true)) (fun k => by simp only [spec_WhoOfKind.l0]; rw [if_neg (by omega)]) (Ev.now _)
      · refine Ev.congr (fun k => by unfold impl_WhoOfKind.f; rfl) ?_
        refine Ev.got (areAges_f l) ?_
        rw [hg]
        refine Ev.if_pos rfl (Ev.got (isKind_f a) ?_)
        rw [hk]
        refine Ev.step (f := fun k => impl_WhoOfKind.l0 k a ([] : List Int) l (l.length : Int) 0) (fun k => by simp only [impl_WhoOfKind.j0]; rfl) ?_
        refine Ev.same (loop_all (g := fun k acc y => impl_WhoOfKind.l0 k a acc l (l.length : Int) y) (q := whQ c l) (lo := 0) (hi := (l.length : Int) - 1) (fun z => (z, true)) (fun acc y r h0 h1 h2 h3 => ?_) (fun acc => ?_) l.length 0 [] (Int.le_refl _) (by omega) (by simp; omega)) (by simp)
        · have ew : wrap64 (y + 1) = y + 1 := w64 (by omega) (by omega)
          have hm := good_mem hg (rd_mem h0 (show y < (l.length : Int) by omega))
          have h9 : rd l y ≤ 960 := by omega
          refine Ev.step (fun k => by simp only [impl_WhoOfKind.l0]; rw [if_pos (show y < (l.length : Int) by omega), if_pos h0, if_pos (show y < (l.length : Int) by omega), ew]) (Ev.bind (implK_f hc h hm.1 h9) ?_)
          cases hv : kV c (rd l y) with
          | true => exact Ev.if_pos rfl (Ev.if_pos (by omega) (by simpa [whQ, hv] using h3))
          | false => exact Ev.if_neg (by simp) (by simpa [whQ, hv] using h3)
        · exact Ev.step (f := fun _ => some (acc, true)) (fun k => by simp only [impl_WhoOfKind.l0]; rw [if_neg (by omega)]) (Ev.now _)

end Go.Proofs.Ythhbkmpipmckkaa.P
