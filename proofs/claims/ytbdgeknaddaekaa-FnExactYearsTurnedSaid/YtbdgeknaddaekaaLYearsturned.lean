import Derived.Test.YtbdgeknaddaekaaLAges
import Derived.Test.YtbdgeknaddaekaaLAlly
import Derived.Test.YtbdgeknaddaekaaLBase
import Derived.Test.YtbdgeknaddaekaaLIn
import Derived.Test.YtbdgeknaddaekaaLInyears
import Derived.Test.YtbdgeknaddaekaaLRange
import Derived.Test.YtbdgeknaddaekaaLTurned
import Derived.Test.YtbdgeknaddaekaaLTwo
import Derived.Test.YtbdgeknaddaekaaLWho
import Derived.Test.YtbdgeknaddaekaaLYears
import Derived.Test.YtbdgeknaddaekaaP7
namespace Go.Proofs.Ytbdgeknaddaekaa.P
open Go.RowKit Go.Proofs.YtbdgeknaddaekaaW.PrintWords Go.Proofs.YtbdgeknaddaekaaW.PrintLast Go.Proofs.YtbdgeknaddaekaaW.PrintMore
set_option linter.unusedVariables false
set_option linter.unusedSimpArgs false

def ytQ (l : List Int) (a b y : Int) : Bool := decide (10 ≤ rd l b + y ∧ rd l b + y ≤ 99) && decide (tu (rd l b + y) = rd l a + y)
def ytOf (l : List Int) (a b : Int) : List Int × Bool := if twoB l a b = true then (coll (ytQ l a b) (fun j => j) (loY l) (nY l), true) else ([], false)
theorem ytOf_length (l : List Int) (a b : Int) : (ytOf l a b).1.length ≤ 1000 := by
  unfold ytOf
  split
  · rename_i h
    have h1 := nY_eq (two_good h).1
    have h2 := coll_length (ytQ l a b) (fun j => j) (nY l) (loY l)
    show (coll (ytQ l a b) (fun j => j) (loY l) (nY l)).length ≤ 1000
    omega
  · simp
theorem specYT_f (l : List Int) (a b : Int) : Ev (fun k => spec_YearsTurned.f k l a b) (ytOf l a b) := by
  have bad : ∀ (h : twoB l a b = false) (c : Bool) (hc : c = true), Ev (fun k => spec_YearsTurned.j0 k l a b c) (ytOf l a b) := by
    intro h c hc
    subst hc
    exact Ev.step (f := fun _ => some ([], false)) (fun k => by simp only [spec_YearsTurned.j0, if_true]) (Ev.same (Ev.now _) (by unfold ytOf; rw [if_neg (by rw [h]; simp)]))
  refine Ev.congr (fun k => by unfold spec_YearsTurned.f; rfl) (Ev.bind (agGood_f l) ?_)
  cases hg : goodB l with
  | true =>
    have hb := range_bounds hg
    have hl := good_len hg
    have hn := nY_eq hg
    have ew1 : wrap64 ((l.length : Int) - 1) = (l.length : Int) - 1 := w64 (by omega) (by omega)
    refine Ev.if_pos rfl (Ev.got (l1In_f a 0 _) ?_)
    rw [ew1]
    cases ha : whoB l a with
    | true =>
      refine Ev.if_pos (by simpa using who_is ha) (Ev.got (l1In_f b 0 _) ?_)
      cases hb' : whoB l b with
      | true =>
        refine Ev.if_pos (by simpa using who_is hb') ?_
        by_cases hab : a = b
        · exact bad (by unfold twoB; rw [ha, hb']; simpa using hab) _ (by simpa using hab)
        · have two : twoB l a b = true := by unfold twoB; rw [ha, hb']; simpa using hab
          obtain ⟨_, ⟨a0, a1⟩, ⟨b0, b1⟩, _⟩ := two_good two
          refine Ev.step (fun k => by simp only [spec_YearsTurned.j0]; rw [if_neg (by simpa using hab)]) (Ev.bind (agRange_f hg) (Ev.same (loop_all (g := fun k acc y => spec_YearsTurned.l0 k l a b acc (hiY l) y) (q := ytQ l a b) (lo := loY l) (hi := hiY l) (fun z => (z, true)) (fun acc y r h0 h1 h2 h3 => ?_) (fun acc => ?_) (nY l) (loY l) [] (Int.le_refl _) hn.1 (by simp; omega)) (by unfold ytOf; rw [if_pos two]; simp)))
          · have ew : wrap64 (y + 1) = y + 1 := w64 (by omega) (by omega)
            obtain ⟨m0, m1, me⟩ := rd_fit hg h0 h1 b0 b1
            obtain ⟨n0, n1, ne⟩ := rd_fit hg h0 h1 a0 a1
            refine Ev.step (fun k => by simp only [spec_YearsTurned.l0]; rw [if_pos h1, if_pos b0, if_pos b1, ew, me, ne]) (Ev.got (l1In_f _ 10 99) ?_)
            by_cases hr : 10 ≤ rd l b + y ∧ rd l b + y ≤ 99
            · refine Ev.if_pos (by simpa using hr) (Ev.got (kiTurned_f _ m0 (by omega)) (Ev.if_pos a0 (Ev.if_pos a1 ?_)))
              by_cases ht : tu (rd l b + y) = rd l a + y
              · have e : ytQ l a b y = true := by unfold ytQ; rw [decide_eq_true hr, decide_eq_true ht]; rfl
                exact Ev.if_pos ht (Ev.if_pos (by omega) (by simpa [e] using h3))
              · have e : ytQ l a b y = false := by unfold ytQ; rw [decide_eq_false ht]; simp
                exact Ev.if_neg ht (by simpa [e] using h3)
            · have e : ytQ l a b y = false := by unfold ytQ; rw [decide_eq_false hr]; rfl
              exact Ev.if_neg (by simpa using hr) (by simpa [e] using h3)
          · exact Ev.step (f := fun _ => some (acc, true)) (fun k => by simp only [spec_YearsTurned.l0]; rw [if_neg (by omega)]) (Ev.now _)
      | false => exact Ev.if_neg (by simpa using not_who hg hb') (bad (by unfold twoB; rw [hb']; simp) _ rfl)
    | false => exact Ev.if_neg (by simpa using not_who hg ha) (bad (by unfold twoB; rw [ha]; rfl) _ rfl)
  | false =>
    have ha : whoB l a = false := by unfold whoB; rw [hg]; rfl
    exact Ev.if_neg (by simp) (bad (by unfold twoB; rw [ha]; rfl) _ rfl)
theorem implYT_f (l : List Int) (a b : Int) : Ev (fun k => impl_YearsTurned.f k l a b) (ytOf l a b) := by
  refine Ev.congr (fun k => by unfold impl_YearsTurned.f; rfl) (Ev.got (areTwo_f l a b) ?_)
  cases two : twoB l a b with
  | true =>
    obtain ⟨hg, ⟨a0, a1⟩, ⟨b0, b1⟩, _⟩ := two_good two
    have hl := good_len hg
    refine Ev.if_pos rfl (Ev.bind (allY_f _ (ytQ l a b) hg (fun y h0 h1 => ?_)) (Ev.same (Ev.now _) (by unfold ytOf; rw [if_pos two])))
    obtain ⟨m0, m1, me⟩ := rd_fit hg h0 h1 b0 b1
    obtain ⟨n0, n1, ne⟩ := rd_fit hg h0 h1 a0 a1
    refine Ev.const (fun k => ?_)
    unfold impl_YearsTurned_1.p impl_isTwo.f ytQ
    rw [if_pos b0, if_pos (by rw [inY_length]; exact b1), inY_rd b0 b1, me, between_f]
    simp only [Option.bind_some]
    by_cases hr : 10 ≤ rd l b + y ∧ rd l b + y ≤ 99
    · rw [decide_eq_true hr, if_pos rfl, turned_f _ m0 (by omega)]
      simp only [Option.bind_some]
      rw [if_pos a0, if_pos (by rw [inY_length]; exact a1), inY_rd a0 a1, ne, Bool.beq_eq_decide_eq]; rfl
    · rw [decide_eq_false hr, if_neg (by simp)]; rfl
  | false => exact Ev.if_neg (by simp) (Ev.same (Ev.now _) (by unfold ytOf; rw [if_neg (by rw [two]; simp)]))

end Go.Proofs.Ytbdgeknaddaekaa.P
