import Derived.Test.YtbdgeknaddaekaaDoorLBase
import Derived.Test.YtbdgeknaddaekaaDoorLIn
import Derived.Test.YtbdgeknaddaekaaDoorP1
import Derived.Test.YtbdgeknaddaekaaDoorP2
namespace Go.Proofs.YtbdgeknaddaekaaDoor.P
open Go.RowKit Go.Proofs.YtbdgeknaddaekaaDoorW.PrintWords Go.Proofs.YtbdgeknaddaekaaDoorW.PrintLast Go.Proofs.YtbdgeknaddaekaaDoorW.PrintMore
set_option linter.unusedVariables false
set_option linter.unusedSimpArgs false

/-! ### ages -/
def allB (l : List Int) (a b : Int) : Bool := l.all fun x => decide (a ≤ x ∧ x ≤ b)
def goodB (l : List Int) : Bool := decide (1 ≤ (l.length : Int) ∧ (l.length : Int) ≤ 8) && allB l 0 120
theorem allB_mem {l : List Int} {a b : Int} (h : allB l a b = true) {x : Int} (hx : x ∈ l) : a ≤ x ∧ x ≤ b := by
  unfold allB at h
  simpa using List.all_eq_true.mp h x hx
theorem good_len {l : List Int} (h : goodB l = true) : 1 ≤ l.length ∧ l.length ≤ 8 := by
  unfold goodB at h
  simp at h
  omega
theorem good_all {l : List Int} (h : goodB l = true) : allB l 0 120 = true := by
  unfold goodB at h
  simp only [Bool.and_eq_true] at h
  exact h.2
theorem good_mem {l : List Int} (h : goodB l = true) {x : Int} (hx : x ∈ l) : 0 ≤ x ∧ x ≤ 120 := allB_mem (good_all h) hx
theorem rd_at (l : List Int) (i : Nat) (h : i < l.length) : rd l (i : Int) = l[i] := by simp [rd, List.getD_eq_getElem?_getD, List.getElem?_eq_getElem h]
theorem rd_mem {l : List Int} {i : Int} (h0 : 0 ≤ i) (h1 : i < (l.length : Int)) : rd l i ∈ l := by
  obtain ⟨n, rfl⟩ := Int.eq_ofNat_of_zero_le h0
  rw [rd_at l n (by omega)]
  exact List.getElem_mem _
theorem drop_rd (l : List Int) (i : Nat) (h : i < l.length) : l.drop i = rd l (i : Int) :: l.drop (i + 1) := by rw [rd_at l i h]; exact List.drop_eq_getElem_cons h
theorem l1All_l (l : List Int) (a b : Int) (hb : l.length ≤ 4611686018427387904) (d : Nat) : ∀ (i : Nat), i + d = l.length → Ev (fun k => spec_l1All.l0 k a b l (l.length : Int) (i : Int)) (allB (l.drop i) a b) := by
  induction d with
  | zero =>
    intro i hi
    exact Ev.step (f := fun _ => some true) (fun k => by simp only [spec_l1All.l0]; rw [if_neg (by omega)]) (Ev.same (Ev.now _) (by rw [List.drop_of_length_le (by omega)]; rfl))
  | succ d ih =>
    intro i hi
    have ew : wrap64 ((i : Int) + 1) = ((i + 1 : Nat) : Int) := by rw [w64 (by omega) (by omega)]; omega
    refine Ev.step (fun k => by simp only [spec_l1All.l0]; rw [if_pos (by omega), if_pos (by omega), if_pos (by omega), ew, l1In_f]) ?_
    rw [drop_rd l i (by omega)]
    by_cases h : a ≤ rd l (i : Int) ∧ rd l (i : Int) ≤ b
    · exact Ev.if_pos (by simpa using h) (Ev.same (ih (i + 1) (by omega)) (by simp [allB, h]))
    · exact Ev.if_neg (by simpa using h) (Ev.same (Ev.now _) (by simp only [allB, List.all_cons, decide_eq_false h, Bool.false_and]))
theorem l1All_f (l : List Int) (a b : Int) (hb : l.length ≤ 4611686018427387904) : Ev (fun k => spec_l1All.f k l a b) (allB l a b) :=
  Ev.same (l1All_l l a b hb l.length 0 (by omega)) (by simp)
theorem agGood_f (l : List Int) : Ev (fun k => spec_agGood.f k l) (goodB l) := by
  refine Ev.congr (fun k => by unfold spec_agGood.f; rfl) (Ev.got (l1In_f (l.length : Int) 1 8) ?_)
  by_cases h : 1 ≤ (l.length : Int) ∧ (l.length : Int) ≤ 8
  · refine Ev.if_pos (by simpa using h) (Ev.bind (l1All_f l 0 120 (by omega)) (Ev.same (Ev.now _) ?_))
    unfold goodB; rw [decide_eq_true h]; simp
  · refine Ev.if_neg (by simpa using h) (Ev.same (Ev.now _) ?_)
    unfold goodB; rw [decide_eq_false h]; simp
theorem areBetween_f (l : List Int) (a b : Int) : impl_areBetween.f l a b = some (allB l a b) := by
  unfold impl_areBetween.f allB
  simp only [Option.some.injEq]
  induction l with
  | nil => rfl
  | cons x xs ih => simp only [List.any_cons, List.all_cons, Bool.not_or, Bool.not_not, ih]
theorem areAges_f (l : List Int) : impl_AreAges.f l = some (goodB l) := by
  unfold impl_AreAges.f goodB
  rw [between_f]
  simp only [Option.bind_some, areBetween_f]
  by_cases h : 1 ≤ (l.length : Int) ∧ (l.length : Int) ≤ 8
  · rw [decide_eq_true h]; simp
  · rw [decide_eq_false h]; simp

end Go.Proofs.YtbdgeknaddaekaaDoor.P
