import Derived.Test.YtbdgeknaddaekaaLAges
import Derived.Test.YtbdgeknaddaekaaLAlly
import Derived.Test.YtbdgeknaddaekaaLBase
import Derived.Test.YtbdgeknaddaekaaLDigits
import Derived.Test.YtbdgeknaddaekaaLInyears
import Derived.Test.YtbdgeknaddaekaaLRange
import Derived.Test.YtbdgeknaddaekaaLYears
import Derived.Test.YtbdgeknaddaekaaP2
import Derived.Test.YtbdgeknaddaekaaP9
namespace Go.Proofs.Ytbdgeknaddaekaa.P
open Go.RowKit Go.Proofs.YtbdgeknaddaekaaW.PrintWords Go.Proofs.YtbdgeknaddaekaaW.PrintLast Go.Proofs.YtbdgeknaddaekaaW.PrintMore
set_option linter.unusedVariables false
set_option linter.unusedSimpArgs false

def yaQ (l : List Int) (y : Int) : Bool := l.all fun x => decide (ds 5 (x + y) = ds 5 (rd l 0 + y))
def yaOf (l : List Int) : List Int × Bool := if goodB l = true then (coll (yaQ l) (fun j => j) (loY l) (nY l), true) else ([], false)
theorem yaOf_length (l : List Int) : (yaOf l).1.length ≤ 1000 := by
  unfold yaOf
  split
  · rename_i h
    have h1 := nY_eq h
    have h2 := coll_length (yaQ l) (fun j => j) (nY l) (loY l)
    show (coll (yaQ l) (fun j => j) (loY l) (nY l)).length ≤ 1000
    omega
  · simp
theorem specYA_l (l : List Int) (hg : goodB l = true) (y : Int) (h0 : loY l ≤ y) (h1 : y ≤ hiY l) (acc : List Int) (ha : acc.length ≤ 1000) (r : List Int × Bool) (h3 : Ev (fun k => spec_YearsAlikeSums.l0 k l (if yaQ l y = true then acc ++ [y] else acc) (hiY l) (y + 1)) r) (d : Nat) :
    ∀ (i : Nat) (c : Bool), i + d = l.length → c = ((l.take i).all fun x => decide (ds 5 (x + y) = ds 5 (rd l 0 + y))) → Ev (fun k => spec_YearsAlikeSums.l1 k l acc (hiY l) y c l (l.length : Int) (i : Int)) r := by
  have hl := good_len hg
  have hb := range_bounds hg
  induction d with
  | zero =>
    intro i c hi hc
    have ew : wrap64 (y + 1) = y + 1 := w64 (by omega) (by omega)
    rw [List.take_of_length_le (by omega)] at hc
    refine Ev.step (fun k => by simp only [spec_YearsAlikeSums.l1]; rw [if_neg (by omega), ew]) ?_
    have e : yaQ l y = c := hc.symm
    rw [e] at h3
    cases c with
    | true => exact Ev.if_pos rfl (Ev.if_pos (by omega) (by simpa using h3))
    | false => exact Ev.if_neg (by simp) (by simpa using h3)
  | succ d ih =>
    intro i c hi hc
    have ew : wrap64 ((i : Int) + 1) = ((i + 1 : Nat) : Int) := by rw [w64 (by omega) (by omega)]; omega
    obtain ⟨m0, m1, me⟩ := rd_fit hg h0 h1 (i := (i : Int)) (by omega) (by omega)
    obtain ⟨n0, n1, ne⟩ := rd_fit hg h0 h1 (i := 0) (by omega) (by omega)
    have tk : l.take (i + 1) = l.take i ++ [rd l (i : Int)] := by rw [List.take_succ_eq_append_getElem (by omega), rd_at l i (by omega)]
    refine Ev.step (fun k => by simp only [spec_YearsAlikeSums.l1]; rw [if_pos (by omega), if_pos (by omega), if_pos (by omega), ew, me, ne]) ?_
    cases c with
    | true =>
      refine Ev.if_pos rfl (Ev.bind (kiDigits_f _ m0 (by omega)) (Ev.if_pos (by omega) (Ev.bind (kiDigits_f _ n0 (by omega)) ?_)))
      refine ih (i + 1) _ (by omega) ?_
      rw [tk, List.all_append, ← hc, Bool.beq_eq_decide_eq]
      simp
    | false =>
      refine Ev.if_neg (by simp) (ih (i + 1) false (by omega) ?_)
      rw [tk, List.all_append, ← hc]; rfl
theorem specYA_f (l : List Int) : Ev (fun k => spec_YearsAlikeSums.f k l) (yaOf l) := by
  refine Ev.congr (fun k => by unfold spec_YearsAlikeSums.f; rfl) (Ev.bind (agGood_f l) ?_)
  cases hg : goodB l with
  | true =>
    have hb := range_bounds hg
    have hl := good_len hg
    have hn := nY_eq hg
    refine Ev.if_pos rfl (Ev.bind (agRange_f hg) (Ev.same (loop_all (g := fun k acc y => spec_YearsAlikeSums.l0 k l acc (hiY l) y) (q := yaQ l) (lo := loY l) (hi := hiY l) (fun z => (z, true)) (fun acc y r h0 h1 h2 h3 => ?_) (fun acc => ?_) (nY l) (loY l) [] (Int.le_refl _) hn.1 (by simp; omega)) (by unfold yaOf; rw [if_pos hg]; simp)))
    · refine Ev.step (fun k => by simp only [spec_YearsAlikeSums.l0]; rw [if_pos h1]; rfl) (specYA_l l hg y h0 h1 acc h2 r h3 l.length 0 true (by omega) (by simp))
    · exact Ev.step (f := fun _ => some (acc, true)) (fun k => by simp only [spec_YearsAlikeSums.l0]; rw [if_neg (by omega)]) (Ev.now _)
  | false => exact Ev.if_neg (by simp) (Ev.same (Ev.now _) (by unfold yaOf; rw [if_neg (by rw [hg]; simp)]))
/-- Whether some number of a list has another sum of digits than the first one. -/
theorem anyO_ev (f : Nat → Int → Option Bool) (g : Int → Bool) (m : List Int) (h : ∀ x ∈ m, Ev (fun k => f k x) (g x)) : Ev (fun k => anyO (f k) m) (m.any g) := by
  induction m with
  | nil => exact Ev.now _
  | cons x xs ih =>
    refine Ev.bind (h x (by simp)) ?_
    cases hx : g x with
    | true => exact Ev.if_pos rfl (Ev.same (Ev.now _) (by simp [hx]))
    | false => exact Ev.if_neg (by simp) (Ev.same (ih (fun z hz => h z (by simp [hz]))) (by simp [hx]))
theorem implYA_f (l : List Int) : Ev (fun k => impl_YearsAlikeSums.f k l) (yaOf l) := by
  refine Ev.congr (fun k => by unfold impl_YearsAlikeSums.f; rfl) (Ev.got (areAges_f l) ?_)
  cases hg : goodB l with
  | true =>
    have hl := good_len hg
    refine Ev.if_pos rfl (Ev.bind (allY_f _ (yaQ l) hg (fun y h0 h1 => ?_)) (Ev.same (Ev.now _) (by unfold yaOf; rw [if_pos hg])))
    obtain ⟨n0, n1, ne⟩ := rd_fit hg h0 h1 (i := 0) (by omega) (by omega)
    have e0 : rd (inY l y) 0 = rd l 0 + y := by rw [inY_rd (by omega) (by omega), ne]
    refine Ev.if_pos (by rw [inY_length]; omega) (Ev.bind (anyO_ev _ (fun x => decide (ds 5 x ≠ ds 5 (rd l 0 + y))) (inY l y) (fun x hx => ?_)) (Ev.same (Ev.now _) ?_))
    · have hx2 : 0 ≤ x ∧ x ≤ 120 := by
        rw [inY_fit hg h0 h1] at hx
        obtain ⟨z, hz, rfl⟩ := List.mem_map.mp hx
        exact (fit_iff hl.1 y).mp ⟨h0, h1⟩ z hz
      refine Ev.bind (digitSum_f x hx2.1 (by omega)) ?_
      rw [e0]
      refine Ev.bind (digitSum_f _ n0 (by omega)) (Ev.same (Ev.now _) ?_)
      by_cases q : ds 5 x = ds 5 (rd l 0 + y) <;> simp [q]
    · rw [inY_fit hg h0 h1]
      unfold yaQ
      rw [List.any_map]
      generalize ds 5 (rd l 0 + y) = t
      clear e0 ne n0 n1 h0 h1 hl hg
      induction l with
      | nil => rfl
      | cons x xs ih =>
        simp only [List.any_cons, List.all_cons, Function.comp, Bool.not_or] at ih ⊢
        rw [ih]
        congr 1
        by_cases q : ds 5 (x + y) = t <;> simp [q]
  | false => exact Ev.if_neg (by simp) (Ev.same (Ev.now _) (by unfold yaOf; rw [if_neg (by rw [hg]; simp)]))

end Go.Proofs.Ytbdgeknaddaekaa.P
