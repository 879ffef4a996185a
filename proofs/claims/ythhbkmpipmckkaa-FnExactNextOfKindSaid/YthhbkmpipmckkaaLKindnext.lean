import Derived.Test.YthhbkmpipmckkaaLAges
import Derived.Test.YthhbkmpipmckkaaLBase
import Derived.Test.YthhbkmpipmckkaaLKindis
import Derived.Test.YthhbkmpipmckkaaLKindlists
import Derived.Test.YthhbkmpipmckkaaLKinds
import Derived.Test.YthhbkmpipmckkaaP4
namespace Go.Proofs.Ythhbkmpipmckkaa.P
open Go.RowKit Go.Proofs.YthhbkmpipmckkaaW.PrintWords Go.Proofs.YthhbkmpipmckkaaW.PrintLast Go.Proofs.YthhbkmpipmckkaaW.PrintMore
set_option linter.unusedVariables false
set_option linter.unusedSimpArgs false

/-! ### the next age of a kind -/
def nextOf (n : Int) (t : List Int) : Int × Bool := match t with | [] => (0, false) | x :: xs => if x > n then (x, true) else nextOf n xs
theorem next_l (n : Int) (t : List Int) (hb : t.length ≤ 1048576) (d : Nat) : ∀ (i : Nat), i + d = t.length → Ev (fun k => spec_NextOfKind.l0 k n t (t.length : Int) (i : Int)) (nextOf n (t.drop i)) := by
  induction d with
  | zero =>
    intro i hi
    exact Ev.step (f := fun _ => some (0, false)) (fun k => by simp only [spec_NextOfKind.l0]; rw [if_neg (by omega)]) (Ev.same (Ev.now _) (by rw [List.drop_of_length_le (by omega)]; rfl))
  | succ d ih =>
    intro i hi
    have ew : wrap64 ((i : Int) + 1) = ((i + 1 : Nat) : Int) := by rw [w64 (by omega) (by omega)]; omega
    refine Ev.step (fun k => by simp only [spec_NextOfKind.l0]; rw [if_pos (show (i : Int) < (t.length : Int) by omega), if_pos (show 0 ≤ (i : Int) by omega), if_pos (show (i : Int) < (t.length : Int) by omega), ew]) ?_
    rw [drop_rd t i (by omega), nextOf]
    by_cases h : rd t (i : Int) > n
    · rw [if_pos h]; exact Ev.if_pos h (Ev.now _)
    · rw [if_neg h]; exact Ev.if_neg h (ih (i + 1) (by omega))
theorem idx_next (n : Int) (t : List Int) : ∀ (pre : List Int), (idxOf (fun x => decide (x > n)) t (pre.length : Int) = -1 ∧ nextOf n t = (0, false)) ∨ (∃ i : Int, 0 ≤ i ∧ i < ((pre ++ t).length : Int) ∧ idxOf (fun x => decide (x > n)) t (pre.length : Int) = i ∧ nextOf n t = (rd (pre ++ t) i, true)) := by
  induction t with
  | nil => intro pre; exact .inl ⟨rfl, rfl⟩
  | cons x xs ih =>
    intro pre
    simp only [idxOf, nextOf]
    by_cases h : x > n
    · refine .inr ⟨pre.length, by omega, by simp; omega, by simp [h], ?_⟩
      rw [if_pos h]
      rw [rd_at (pre ++ x :: xs) pre.length (by simp)]
      simp
    · rw [if_neg (by simpa using h), if_neg h]
      have := ih (pre ++ [x])
      rw [show ((pre ++ [x]).length : Int) = (pre.length : Int) + 1 by simp] at this
      simpa using this
theorem nextK_both (n : Int) (a : ByteArray) : ∃ r : Int × Bool, Ev (fun k => spec_NextOfKind.f k n a) r ∧ Ev (fun k => impl_NextOfKind.f k n a) r := by
  have bad : Ev (fun k => spec_NextOfKind.j0 k n a true) (0, false) := Ev.step (f := fun _ => some (0, false)) (fun k => by simp only [spec_NextOfKind.j0, if_true]) (Ev.now _)
  by_cases hn : 0 ≤ n ∧ n ≤ 120
  · rcases kind_cases a with h | ⟨c, hc, h, hk⟩
    · refine ⟨(0, false), ?_, ?_⟩
      · refine Ev.congr (fun k => by unfold spec_NextOfKind.f; rfl) ?_
        exact Ev.got (kiAge_f n) (Ev.if_pos (decide_eq_true hn) (Ev.got (kiKind_f a) (by rw [h]; exact bad)))
      · refine Ev.congr (fun k => by unfold impl_NextOfKind.f; rfl) ?_
        exact Ev.got (isAge_f n) (Ev.if_pos (decide_eq_true hn) (Ev.got (isKind_f a) (by rw [h]; exact Ev.if_neg (show ¬ (false = true) by decide) (Ev.now _))))
    · have hs := kiAll_f hc h
      have hi := kindAges_f hc h
      have hl := coll_length (kV c) (fun j => j) 121 0
      generalize coll (kV c) (fun j => j) 0 121 = t at hs hi hl
      refine ⟨nextOf n t, ?_, ?_⟩
      · refine Ev.congr (fun k => by unfold spec_NextOfKind.f; rfl) ?_
        refine Ev.got (kiAge_f n) (Ev.if_pos (decide_eq_true hn) (Ev.got (kiKind_f a) ?_))
        rw [hk]
        refine Ev.step (fun k => by simp only [spec_NextOfKind.j0]; rw [if_neg (by simp)]) (Ev.bind hs ?_)
        exact Ev.same (next_l n t (by omega) t.length 0 (by omega)) (by simp)
      · refine Ev.congr (fun k => by unfold impl_NextOfKind.f; rfl) ?_
        refine Ev.got (isAge_f n) (Ev.if_pos (decide_eq_true hn) (Ev.got (isKind_f a) ?_))
        rw [hk]
        refine Ev.if_pos rfl (Ev.bind hi ?_)
        rcases idx_next n t [] with ⟨e1, e2⟩ | ⟨i, i0, i1, e1, e2⟩
        · simp only [List.length_nil, Int.ofNat_zero] at e1
          have e1' : idxOf (fun x => decide (x > n)) t 0 = -1 := e1
          rw [e2]
          exact Ev.if_pos (show idxOf (fun x => decide (x > n)) t 0 < 0 by rw [e1']; omega) (Ev.now _)
        · have e1' : idxOf (fun x => decide (x > n)) t 0 = i := e1
          have i1' : i < (t.length : Int) := i1
          rw [show nextOf n t = (rd t i, true) from e2]
          refine Ev.if_neg (show ¬ idxOf (fun x => decide (x > n)) t 0 < 0 by rw [e1']; omega) (Ev.if_pos (show idxOf (fun x => decide (x > n)) t 0 < (t.length : Int) by rw [e1']; omega) ?_)
          rw [e1']
          exact Ev.now _
  · refine ⟨(0, false), ?_, ?_⟩
    · refine Ev.congr (fun k => by unfold spec_NextOfKind.f; rfl) ?_
      exact Ev.got (kiAge_f n) (Ev.if_neg (fun e => hn (of_decide_eq_true e)) bad)
    · refine Ev.congr (fun k => by unfold impl_NextOfKind.f; rfl) ?_
      exact Ev.got (isAge_f n) (Ev.if_neg (fun e => hn (of_decide_eq_true e)) (Ev.now _))

end Go.Proofs.Ythhbkmpipmckkaa.P
