import Derived.Test.YthhbkmpipmckkaaLBase
import Derived.Test.YthhbkmpipmckkaaLKindlists
import Derived.Test.YthhbkmpipmckkaaLKinds
import Derived.Test.YthhbkmpipmckkaaP3
namespace Go.Proofs.Ythhbkmpipmckkaa.P
open Go.RowKit Go.Proofs.YthhbkmpipmckkaaW.PrintWords Go.Proofs.YthhbkmpipmckkaaW.PrintLast Go.Proofs.YthhbkmpipmckkaaW.PrintMore
set_option linter.unusedVariables false
set_option linter.unusedSimpArgs false

/-! ### the longest time without an age of a kind -/
def kAges (c : Nat) : List Int := coll (kV c) (fun j => j) 0 121
def longS (c : Nat) : Option (Int × Int × Bool) := spec_LongestWithout.l0 130 (kAges c) 0 (-1) 1
def longI (c : Nat) : Option (Int × Int × Bool) := impl_LongestWithout.j0 130 (kAges c) (decide (((kAges c).length : Int) < 2))
set_option maxRecDepth 100000 in
theorem longTable : (List.range 6).all (fun c => longS c == longI c && (longS c).isSome) = true := by decide +kernel
theorem longK_both (a : ByteArray) : ∃ r : Int × Int × Bool, Ev (fun k => spec_LongestWithout.f k a) r ∧ Ev (fun k => impl_LongestWithout.f k a) r := by
  rcases kind_cases a with h | ⟨c, hc, h, hk⟩
  · refine ⟨(0, 0, false), ?_, ?_⟩
    · refine Ev.congr (fun k => by unfold spec_LongestWithout.f; rfl) ?_
      exact Ev.got (kiKind_f a) (by rw [h]; exact Ev.if_neg (show ¬ (false = true) by decide) (Ev.now _))
    · refine Ev.congr (fun k => by unfold impl_LongestWithout.f impl_AgesOfKind.f; rfl) ?_
      refine Ev.bind (a := (([] : List Int), false)) ?_ ?_
      · exact Ev.got (isKind_f a) (by rw [h]; exact Ev.if_neg (show ¬ (false = true) by decide) (Ev.now _))
      · exact Ev.if_neg (show ¬ (false = true) by decide) (Ev.step (f := fun _ => some (0, 0, false)) (fun k => by simp only [impl_LongestWithout.j0, if_true]) (Ev.now _))
  · have key := List.all_eq_true.mp longTable c (List.mem_range.mpr hc)
    simp only [Bool.and_eq_true, beq_iff_eq] at key
    obtain ⟨r, hr⟩ := Option.isSome_iff_exists.mp key.2
    refine ⟨r, ?_, ?_⟩
    · refine Ev.congr (fun k => by unfold spec_LongestWithout.f; rfl) ?_
      refine Ev.got (kiKind_f a) ?_
      rw [hk]
      refine Ev.if_pos rfl (Ev.bind (kiAll_f hc h) ?_)
      exact Ev.mono (fun k => spec_LongestWithout.mono_l k _ _ _ _) (K := 130) hr
    · refine Ev.congr (fun k => by unfold impl_LongestWithout.f impl_AgesOfKind.f; rfl) ?_
      refine Ev.bind (a := (kAges c, true)) ?_ ?_
      · refine Ev.got (isKind_f a) ?_
        rw [hk]
        exact Ev.if_pos rfl (Ev.bind (kindAges_f hc h) (Ev.now _))
      · refine Ev.if_pos rfl ?_
        exact Ev.mono (fun k => (impl_LongestWithout.mono_l k).1 _ _) (K := 130) (key.1.symm.trans hr)

end Go.Proofs.Ythhbkmpipmckkaa.P
