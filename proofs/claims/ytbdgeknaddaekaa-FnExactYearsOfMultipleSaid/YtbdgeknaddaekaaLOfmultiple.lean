import Derived.Test.YtbdgeknaddaekaaLAgtwo
import Derived.Test.YtbdgeknaddaekaaLBase
import Derived.Test.YtbdgeknaddaekaaLFirsty
import Derived.Test.YtbdgeknaddaekaaLInyears
import Derived.Test.YtbdgeknaddaekaaLMultiples
import Derived.Test.YtbdgeknaddaekaaLRange
import Derived.Test.YtbdgeknaddaekaaLTwo
import Derived.Test.YtbdgeknaddaekaaLYears
import Derived.Test.YtbdgeknaddaekaaP0
import Derived.Test.YtbdgeknaddaekaaP2
import Derived.Test.YtbdgeknaddaekaaP3
namespace Go.Proofs.Ytbdgeknaddaekaa.P
open Go.RowKit Go.Proofs.YtbdgeknaddaekaaW.PrintWords Go.Proofs.YtbdgeknaddaekaaW.PrintLast Go.Proofs.YtbdgeknaddaekaaW.PrintMore
set_option linter.unusedVariables false
set_option linter.unusedSimpArgs false

def findR (t : Int) : List (List Int) → Int × Bool
  | [] => (0, false)
  | r :: rs => if rd r 1 = t then (rd r 0, true) else findR t rs
def omQ (l : List Int) (a b t y : Int) : Bool := decide (1 ≤ rd l b + y) && decide (Int.tmod (rd l a + y) (rd l b + y) = 0) && decide (Int.tdiv (rd l a + y) (rd l b + y) = t)
theorem findR_coll (l : List Int) (a b t : Int) (ht : 2 ≤ t) (d : Nat) : ∀ y, findR t (collR (mulC l a b) (mulR l a b) y d) = firstOf (omQ l a b t) y d := by
  induction d with
  | zero => intro y; rfl
  | succ d ih =>
    intro y
    simp only [collR, firstOf]
    by_cases hc : mulC l a b y = true
    · rw [if_pos hc]
      simp only [findR]
      unfold mulC at hc
      simp only [Bool.and_eq_true, decide_eq_true_eq] at hc
      have e1 : rd (mulR l a b y) 1 = Int.tdiv (rd l a + y) (rd l b + y) := rfl
      have e0 : rd (mulR l a b y) 0 = y := rfl
      rw [e1, e0]
      by_cases h : Int.tdiv (rd l a + y) (rd l b + y) = t
      · rw [if_pos h, if_pos (by unfold omQ; simp [hc.1.1, hc.1.2, h])]
      · rw [if_neg h, if_neg (by unfold omQ; simp [h])]; exact ih (y + 1)
    · rw [if_neg hc, if_neg (fun q => hc ?_)]
      · exact ih (y + 1)
      · unfold omQ at q
        unfold mulC
        simp only [Bool.and_eq_true, decide_eq_true_eq] at q ⊢
        exact ⟨q.1, by omega⟩
theorem drop_row (rows : List (List Int)) (i : Nat) (h : i < rows.length) : rows.drop i = rd_L1 rows (i : Int) :: rows.drop (i + 1) := by
  rw [List.drop_eq_getElem_cons h]
  congr 1
  unfold rd_L1
  simp [List.getD_eq_getElem?_getD, List.getElem?_eq_getElem h]
theorem specOM_l (t : Int) (rows : List (List Int)) (hb : rows.length ≤ 1048576) (h2 : ∀ r ∈ rows, r.length = 2) (d : Nat) : ∀ (i : Nat), i + d = rows.length → Ev (fun k => spec_YearsOfMultiple.l0 k t rows (rows.length : Int) (i : Int)) (findR t (rows.drop i)) := by
  induction d with
  | zero =>
    intro i hi
    exact Ev.step (f := fun _ => some (0, false)) (fun k => by simp only [spec_YearsOfMultiple.l0]; rw [if_neg (by omega)]) (Ev.same (Ev.now _) (by rw [List.drop_of_length_le (by omega)]; rfl))
  | succ d ih =>
    intro i hi
    have ew : wrap64 ((i : Int) + 1) = ((i + 1 : Nat) : Int) := by rw [w64 (by omega) (by omega)]; omega
    have hr : (rd_L1 rows (i : Int)).length = 2 := by
      refine h2 _ ?_
      have : rd_L1 rows (i : Int) ∈ rows.drop i := by rw [drop_row rows i (by omega)]; simp
      exact List.mem_of_mem_drop this
    refine Ev.step (fun k => by simp only [spec_YearsOfMultiple.l0]; rw [if_pos (by omega), if_pos (by omega), if_pos (by omega), if_pos (by omega), ew]) ?_
    rw [drop_row rows i (by omega)]
    by_cases h : rd (rd_L1 rows (i : Int)) 1 = t
    · exact Ev.if_pos h (Ev.if_pos (by omega) (Ev.same (Ev.now _) (by simp [findR, h])))
    · exact Ev.if_neg h (Ev.same (ih (i + 1) (by omega)) (by simp [findR, h]))
def omOk (l : List Int) (a b t : Int) : Prop := twoB l a b = true ∧ 2 ≤ t
instance (l : List Int) (a b t : Int) : Decidable (omOk l a b t) := inferInstanceAs (Decidable (_ ∧ _))
def omOf (l : List Int) (a b t : Int) : Int × Bool := if omOk l a b t then firstOf (omQ l a b t) (loY l) (nY l) else (0, false)
theorem collR_two (p : Int → Bool) (l : List Int) (a b : Int) (d : Nat) : ∀ y, ∀ r ∈ collR p (mulR l a b) y d, r.length = 2 := by
  induction d with
  | zero => intro y r hr; simp [collR] at hr
  | succ d ih =>
    intro y r hr
    by_cases hp : p y = true
    · simp only [collR, hp, if_true, List.mem_cons] at hr
      rcases hr with rfl | hr
      · rfl
      · exact ih _ r hr
    · simp only [collR, hp] at hr
      exact ih _ r hr
theorem specOM_f (l : List Int) (a b t : Int) : Ev (fun k => spec_YearsOfMultiple.f k l a b t) (omOf l a b t) := by
  have bad : ∀ (h : ¬ omOk l a b t) (c : Bool) (hc : c = true), Ev (fun k => spec_YearsOfMultiple.j0 k l a b t c) (omOf l a b t) := by
    intro h c hc
    subst hc
    exact Ev.step (f := fun _ => some (0, false)) (fun k => by simp only [spec_YearsOfMultiple.j0, if_true]) (Ev.same (Ev.now _) (by unfold omOf; rw [if_neg h]))
  refine Ev.congr (fun k => by unfold spec_YearsOfMultiple.f; rfl) (Ev.bind (agTwo_f l a b) ?_)
  cases two : twoB l a b with
  | true =>
    have hn := nY_eq (two_good two).1
    refine Ev.if_pos rfl ?_
    by_cases ht : t < 2
    · exact bad (fun h => by have := h.2; omega) _ (by simpa using ht)
    · have hlen := collR_length (mulC l a b) (mulR l a b) (nY l) (loY l)
      refine Ev.step (fun k => by simp only [spec_YearsOfMultiple.j0]; rw [if_neg (by simpa using ht)]) (Ev.bind (agMul_f l a b two) (Ev.same (specOM_l t (mulOf l a b) (by unfold mulOf; omega) (collR_two _ l a b _ _) (mulOf l a b).length 0 (by omega)) ?_))
      unfold omOf
      rw [if_pos ⟨two, by omega⟩]
      simpa [mulOf] using findR_coll l a b t (by omega) (nY l) (loY l)
  | false => exact Ev.if_neg (by simp) (bad (fun h => by have q := h.1; rw [two] at q; simp at q) _ rfl)
theorem implOM_f (l : List Int) (a b t : Int) : Ev (fun k => impl_YearsOfMultiple.f k l a b t) (omOf l a b t) := by
  refine Ev.congr (fun k => by unfold impl_YearsOfMultiple.f; rfl) (Ev.got (areTwo_f l a b) ?_)
  cases two : twoB l a b with
  | true =>
    obtain ⟨hg, ⟨a0, a1⟩, ⟨b0, b1⟩, _⟩ := two_good two
    refine Ev.if_pos rfl ?_
    by_cases ht : t < 2
    · exact Ev.if_pos ht (Ev.same (Ev.now _) (by unfold omOf; rw [if_neg (fun h => by have := h.2; omega)]))
    · refine Ev.if_neg ht (Ev.same (firstY_f _ (omQ l a b t) hg (fun y h0 h1 => ?_)) (by unfold omOf; rw [if_pos ⟨two, by omega⟩]))
      obtain ⟨m0, m1, me⟩ := rd_fit hg h0 h1 b0 b1
      obtain ⟨n0, n1, ne⟩ := rd_fit hg h0 h1 a0 a1
      refine Ev.const (fun k => ?_)
      unfold impl_YearsOfMultiple_1.p omQ
      rw [if_pos b0, if_pos (by rw [inY_length]; exact b1), inY_rd b0 b1, inY_rd a0 a1, me, ne]
      by_cases hp : 1 ≤ rd l b + y
      · rw [if_pos hp, if_pos a0, if_pos (by rw [inY_length]; exact a1), decide_eq_true hp]
        by_cases hm : Int.tmod (rd l a + y) (rd l b + y) = 0
        · rw [if_pos hm, decide_eq_true hm, tdiv_small n0 n1 hp, Bool.beq_eq_decide_eq]; rfl
        · rw [if_neg hm, decide_eq_false hm]; rfl
      · rw [if_neg hp, decide_eq_false hp]; rfl
  | false => exact Ev.if_neg (by simp) (Ev.same (Ev.now _) (by unfold omOf; rw [if_neg (fun h => by have q := h.1; rw [two] at q; simp at q)]))

end Go.Proofs.Ytbdgeknaddaekaa.P
