import Derived.Test.YtngofdkfonnniaaLAges
import Derived.Test.YtngofdkfonnniaaLBase
import Derived.Test.YtngofdkfonnniaaLWho
import Derived.Test.YtngofdkfonnniaaP5
import Derived.Test.YtngofdkfonnniaaP6
import Derived.Test.YtngofdkfonnniaaP8
namespace Go.Proofs.Ytngofdkfonnniaa.P
open Go.RowKit Go.Proofs.YtngofdkfonnniaaW.PrintWords Go.Proofs.YtngofdkfonnniaaW.PrintLast Go.Proofs.YtngofdkfonnniaaW.PrintMore
set_option linter.unusedVariables false
set_option linter.unusedSimpArgs false

def drOf (l : List Int) (a : Int) : List Int × Bool := if whoB l a = true ∧ l.length ≠ 1 then (l.take a.toNat ++ l.drop (a.toNat + 1), true) else ([], false)
theorem drop_len {l : List Int} {i : Nat} (hi : i < l.length) : (l.take i ++ l.drop (i + 1)).length = l.length - 1 := by
  simp; omega
theorem drOf_length (l : List Int) (a : Int) : (drOf l a).1.length ≤ 9 := by
  unfold drOf
  split
  · rename_i h
    have h1 := who_good h.1
    have := good_len h1.1
    rw [drop_len (by omega)]; omega
  · simp
theorem good_drop {l : List Int} (hg : goodB l = true) {i : Nat} (hi : i < l.length) : goodB (l.take i ++ l.drop (i + 1)) = true ↔ l.length ≠ 1 := by
  have h1 := good_len hg
  have h2 := drop_len hi
  have h3 : allB (l.take i ++ l.drop (i + 1)) 0 120 = true := by
    unfold allB
    rw [List.all_eq_true]
    intro x hx
    have hm : x ∈ l := by
      rcases List.mem_append.mp hx with h | h
      · exact List.mem_of_mem_take h
      · exact List.mem_of_mem_drop h
    exact decide_eq_true (good_mem hg hm)
  unfold goodB
  rw [h3, h2]
  simp only [Bool.and_true, decide_eq_true_eq]
  omega
theorem specDA_f (l : List Int) (a : Int) : Ev (fun k => spec_DropAge.f k l a) (drOf l a) := by
  refine Ev.congr (fun k => by unfold spec_DropAge.f; rfl) (Ev.bind (agWho_f l a) ?_)
  cases hw : whoB l a with
  | true =>
    obtain ⟨hg, h0, h1⟩ := who_good hw
    have hl := good_len hg
    have ew : wrap64 (a + 1) = a + 1 := w64 (by omega) (by omega)
    refine Ev.if_pos rfl ?_
    by_cases h : l.length = 1
    · exact Ev.if_pos (by omega) (Ev.same (Ev.now _) (by unfold drOf; rw [if_neg (fun q => q.2 h)]))
    · refine Ev.if_neg (by omega) (Ev.if_pos h0 (Ev.if_pos (by omega) (Ev.const (fun k => ?_))))
      have e1 : (a + 1).toNat = a.toNat + 1 := by omega
      unfold spec_l1Own.f drOf
      rw [if_pos ⟨hw, h⟩, ew, e1]
      have h5 : (l.take a.toNat).length ≤ 8 := by simp; omega
      have h6 : (l.drop (a.toNat + 1)).length ≤ 8 := by simp; omega
      simp only [Option.bind_some, List.length_nil, List.nil_append]
      rw [if_pos (by omega)]
      simp only [Option.bind_some]
      rw [if_pos (by omega), if_pos (by omega), if_pos (by omega)]
  | false => exact Ev.if_neg (by simp) (Ev.same (Ev.now _) (by unfold drOf; rw [if_neg (fun q => by rw [hw] at q; simp at q)]))
theorem implDA_f (l : List Int) (a : Int) : impl_DropAge.f l a = some (drOf l a) := by
  unfold impl_DropAge.f
  rw [areAges_f]
  simp only [Option.bind_some]
  cases hg : goodB l with
  | true =>
    have hl := good_len hg
    rw [if_pos rfl, is_f l a hg]
    simp only [Option.bind_some]
    by_cases hw : 0 ≤ a ∧ a ≤ (l.length : Int) - 1
    · have who : whoB l a = true := by unfold whoB; rw [hg, decide_eq_true hw]; rfl
      rw [if_pos (decide_eq_true hw)]
      unfold slices_Clone_int_int.f
      rw [if_pos (by omega)]
      simp only [Option.bind_some]
      rw [if_pos hw.1, if_pos (by omega)]
      unfold impl_agesOr.f
      rw [areAges_f]
      simp only [Option.bind_some]
      have key := good_drop hg (show a.toNat < l.length by omega)
      cases hs : goodB (l.take a.toNat ++ l.drop (a.toNat + 1)) with
      | true => rw [if_pos rfl]; unfold drOf; rw [if_pos ⟨who, key.mp hs⟩]
      | false => rw [if_neg (by simp)]; unfold drOf; rw [if_neg (fun q => by rw [key.mpr q.2] at hs; simp at hs)]
    · rw [if_neg (fun q => hw (of_decide_eq_true q))]
      unfold drOf
      rw [if_neg (fun q => hw (who_is q.1))]
  | false => rw [if_neg (by simp)]; unfold drOf; rw [if_neg (fun q => by have := (who_good q.1).1; rw [hg] at this; simp at this)]

end Go.Proofs.Ytngofdkfonnniaa.P
