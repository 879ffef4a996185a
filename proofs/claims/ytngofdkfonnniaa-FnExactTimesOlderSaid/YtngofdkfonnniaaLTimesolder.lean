import Derived.Test.YtngofdkfonnniaaLAges
import Derived.Test.YtngofdkfonnniaaLBase
import Derived.Test.YtngofdkfonnniaaLGcd
import Derived.Test.YtngofdkfonnniaaLWho
import Derived.Test.YtngofdkfonnniaaP2
namespace Go.Proofs.Ytngofdkfonnniaa.P
open Go.RowKit Go.Proofs.YtngofdkfonnniaaW.PrintWords Go.Proofs.YtngofdkfonnniaaW.PrintLast Go.Proofs.YtngofdkfonnniaaW.PrintMore
set_option linter.unusedVariables false
set_option linter.unusedSimpArgs false

def toOk (l : List Int) (a b : Int) : Prop := whoB l a = true ∧ whoB l b = true ∧ rd l b ≠ 0
instance (l : List Int) (a b : Int) : Decidable (toOk l a b) := inferInstanceAs (Decidable (_ ∧ _ ∧ _))
def toOf (l : List Int) (a b : Int) : Int × Int × Bool := if toOk l a b then ((lowOf (rd l a) (rd l b)).1, (lowOf (rd l a) (rd l b)).2, true) else (0, 0, false)
theorem specTO_f (l : List Int) (a b : Int) : Ev (fun k => spec_TimesOlder.f k l a b) (toOf l a b) := by
  refine Ev.congr (fun k => by unfold spec_TimesOlder.f; rfl) (Ev.bind (agWho_f l a) ?_)
  cases ha : whoB l a with
  | true =>
    refine Ev.if_pos rfl (Ev.bind (agWho_f l b) ?_)
    cases hb : whoB l b with
    | true =>
      obtain ⟨hg, a0, a1⟩ := who_good ha
      obtain ⟨_, b0, b1⟩ := who_good hb
      have ma := good_mem hg (rd_mem a0 a1)
      have mb := good_mem hg (rd_mem b0 b1)
      refine Ev.if_pos rfl (Ev.if_pos b0 (Ev.if_pos b1 ?_))
      by_cases hz : rd l b = 0
      · exact Ev.if_pos hz (Ev.same (Ev.now _) (by unfold toOf; rw [if_neg (fun h => h.2.2 hz)]))
      · exact Ev.if_neg hz (Ev.if_pos a0 (Ev.if_pos a1 (Ev.bind (agLow_f _ _ ma.1 (by omega)) (Ev.same (Ev.now _) (by unfold toOf; rw [if_pos ⟨ha, hb, hz⟩])))))
    | false => exact Ev.if_neg (by simp) (Ev.same (Ev.now _) (by unfold toOf; rw [if_neg (fun h => by have q := h.2.1; rw [hb] at q; simp at q)]))
  | false => exact Ev.if_neg (by simp) (Ev.same (Ev.now _) (by unfold toOf; rw [if_neg (fun h => by have q := h.1; rw [ha] at q; simp at q)]))
theorem implTO_f (l : List Int) (a b : Int) : Ev (fun k => impl_TimesOlder.f k l a b) (toOf l a b) := by
  refine Ev.congr (fun k => by unfold impl_TimesOlder.f; rfl) (Ev.got (areAges_f l) ?_)
  cases hg : goodB l with
  | true =>
    refine Ev.if_pos rfl (Ev.got (is_f l a hg) ?_)
    cases ha : whoB l a with
    | true =>
      refine Ev.if_pos (by simpa using who_is ha) (Ev.got (is_f l b hg) ?_)
      cases hb : whoB l b with
      | true =>
        obtain ⟨_, a0, a1⟩ := who_good ha
        obtain ⟨_, b0, b1⟩ := who_good hb
        have ma := good_mem hg (rd_mem a0 a1)
        have mb := good_mem hg (rd_mem b0 b1)
        refine Ev.if_pos (by simpa using who_is hb) (Ev.if_pos b0 (Ev.if_pos b1 ?_))
        by_cases hz : rd l b = 0
        · exact Ev.if_pos hz (Ev.same (Ev.now _) (by unfold toOf; rw [if_neg (fun h => h.2.2 hz)]))
        · exact Ev.if_neg hz (Ev.if_pos a0 (Ev.if_pos a1 (Ev.bind (lowest_f _ _ ma.1 (by omega) (by omega) (by omega)) (Ev.same (Ev.now _) (by unfold toOf; rw [if_pos ⟨ha, hb, hz⟩])))))
      | false => exact Ev.if_neg (by simpa using not_who hg hb) (Ev.same (Ev.now _) (by unfold toOf; rw [if_neg (fun h => by have q := h.2.1; rw [hb] at q; simp at q)]))
    | false => exact Ev.if_neg (by simpa using not_who hg ha) (Ev.same (Ev.now _) (by unfold toOf; rw [if_neg (fun h => by have q := h.1; rw [ha] at q; simp at q)]))
  | false =>
    have ha : whoB l a = false := by unfold whoB; rw [hg]; rfl
    exact Ev.if_neg (by simp) (Ev.same (Ev.now _) (by unfold toOf; rw [if_neg (fun h => by have q := h.1; rw [ha] at q; simp at q)]))

end Go.Proofs.Ytngofdkfonnniaa.P
