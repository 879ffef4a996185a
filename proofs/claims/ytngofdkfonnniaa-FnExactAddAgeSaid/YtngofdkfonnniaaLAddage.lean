import Derived.Test.YtngofdkfonnniaaLAges
import Derived.Test.YtngofdkfonnniaaLBase
import Derived.Test.YtngofdkfonnniaaLIn
import Derived.Test.YtngofdkfonnniaaP5
import Derived.Test.YtngofdkfonnniaaP6
namespace Go.Proofs.Ytngofdkfonnniaa.P
open Go.RowKit Go.Proofs.YtngofdkfonnniaaW.PrintWords Go.Proofs.YtngofdkfonnniaaW.PrintLast Go.Proofs.YtngofdkfonnniaaW.PrintMore
set_option linter.unusedVariables false
set_option linter.unusedSimpArgs false

def addOf (l : List Int) (a : Int) : List Int × Bool := if goodB l = true ∧ (0 ≤ a ∧ a ≤ 120) ∧ l.length ≠ 8 then (l ++ [a], true) else ([], false)
theorem addOf_length (l : List Int) (a : Int) : (addOf l a).1.length ≤ 9 := by
  unfold addOf
  split
  · rename_i h; have := good_len h.1; simp; omega
  · simp
theorem good_snoc {l : List Int} (hg : goodB l = true) (a : Int) : goodB (l ++ [a]) = true ↔ (0 ≤ a ∧ a ≤ 120) ∧ l.length ≠ 8 := by
  have h1 := good_len hg
  have h2 := good_all hg
  unfold goodB allB at *
  simp only [List.all_append, h2, Bool.and_eq_true, decide_eq_true_eq, List.length_append, List.length_singleton, List.all_cons, List.all_nil]
  constructor
  · intro h; exact ⟨h.2.2.1, by omega⟩
  · intro h; exact ⟨by omega, trivial, h.1, trivial⟩
theorem specAdd_f (l : List Int) (a : Int) : Ev (fun k => spec_AddAge.f k l a) (addOf l a) := by
  refine Ev.congr (fun k => by unfold spec_AddAge.f; rfl) (Ev.bind (agGood_f l) ?_)
  cases hg : goodB l with
  | true =>
    have := good_len hg
    refine Ev.if_pos rfl (Ev.got (l1In_f a 0 120) ?_)
    by_cases ha : 0 ≤ a ∧ a ≤ 120
    · refine Ev.if_pos (by simpa using ha) ?_
      by_cases h8 : l.length = 8
      · exact Ev.if_pos (by omega) (Ev.same (Ev.now _) (by unfold addOf; rw [if_neg (fun h => h.2.2 h8)]))
      · refine Ev.if_neg (by omega) (Ev.const (fun k => ?_))
        unfold addOf spec_l1Own.f
        rw [if_pos ⟨hg, ha, h8⟩]
        simp only [Option.bind_some, List.length_nil, List.nil_append]
        rw [if_pos (by omega)]
        simp only [Option.bind_some]
        rw [if_pos (by omega)]
    · exact Ev.if_neg (by simpa using ha) (Ev.same (Ev.now _) (by unfold addOf; rw [if_neg (fun h => ha h.2.1)]))
  | false => exact Ev.if_neg (by simp) (Ev.same (Ev.now _) (by unfold addOf; rw [if_neg (fun h => by rw [hg] at h; simp at h)]))
theorem implAdd_f (l : List Int) (a : Int) : impl_AddAge.f l a = some (addOf l a) := by
  unfold impl_AddAge.f
  rw [areAges_f]
  simp only [Option.bind_some]
  cases hg : goodB l with
  | true =>
    have := good_len hg
    rw [if_pos rfl]
    unfold slices_Clone_int_int.f
    rw [if_pos (by omega)]
    simp only [Option.bind_some]
    rw [if_pos (by omega)]
    unfold impl_agesOr.f
    rw [areAges_f]
    simp only [Option.bind_some]
    cases hs : goodB (l ++ [a]) with
    | true => simp only [if_true, Option.bind_some]; unfold addOf; rw [if_pos ⟨hg, (good_snoc hg a).mp hs⟩]
    | false => simp only [Bool.false_eq_true, if_false, Option.bind_some]; unfold addOf; rw [if_neg (fun h => by rw [(good_snoc hg a).mpr h.2] at hs; simp at hs)]
  | false => rw [if_neg (by simp)]; unfold addOf; rw [if_neg (fun h => by rw [hg] at h; simp at h)]

end Go.Proofs.Ytngofdkfonnniaa.P
