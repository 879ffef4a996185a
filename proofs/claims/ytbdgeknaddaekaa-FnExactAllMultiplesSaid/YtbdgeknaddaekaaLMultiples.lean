import Derived.Test.YtbdgeknaddaekaaLAges
import Derived.Test.YtbdgeknaddaekaaLBase
import Derived.Test.YtbdgeknaddaekaaLRange
import Derived.Test.YtbdgeknaddaekaaLTwo
import Derived.Test.YtbdgeknaddaekaaLYears
import Derived.Test.YtbdgeknaddaekaaP2
namespace Go.Proofs.Ytbdgeknaddaekaa.P
open Go.RowKit Go.Proofs.YtbdgeknaddaekaaW.PrintWords Go.Proofs.YtbdgeknaddaekaaW.PrintLast Go.Proofs.YtbdgeknaddaekaaW.PrintMore
set_option linter.unusedVariables false
set_option linter.unusedSimpArgs false

/-! ### years in which one is some times as old as another one -/
def collR (p : Int → Bool) (f : Int → List Int) : Int → Nat → List (List Int)
  | _, 0 => []
  | i, d + 1 => if p i = true then f i :: collR p f (i + 1) d else collR p f (i + 1) d
theorem collR_length (p : Int → Bool) (f : Int → List Int) (d : Nat) : ∀ i, (collR p f i d).length ≤ d := by
  induction d with
  | zero => intro i; simp [collR]
  | succ d ih =>
    intro i
    have h := ih (i + 1)
    by_cases hp : p i = true
    · simp only [collR, hp, if_true, List.length_cons]; omega
    · simp only [collR, hp]; exact Nat.le_succ_of_le h
def mulC (l : List Int) (a b y : Int) : Bool := decide (1 ≤ rd l b + y) && decide (Int.tmod (rd l a + y) (rd l b + y) = 0) && decide (2 ≤ Int.tdiv (rd l a + y) (rd l b + y))
def mulR (l : List Int) (a b y : Int) : List Int := [y, Int.tdiv (rd l a + y) (rd l b + y)]
def mulOf (l : List Int) (a b : Int) : List (List Int) := collR (mulC l a b) (mulR l a b) (loY l) (nY l)
theorem tdiv_small {x z : Int} (h0 : 0 ≤ x) (h1 : x ≤ 120) (hz : 1 ≤ z) : wrap64 (Int.tdiv x z) = Int.tdiv x z := by
  have h2 : 0 ≤ Int.tdiv x z := Int.tdiv_nonneg h0 (by omega)
  have h3 : Int.tdiv x z ≤ x := by rw [Int.tdiv_eq_ediv_of_nonneg h0]; exact Int.ediv_le_self z h0
  exact w64 (by omega) (by omega)
theorem agMul_l (l : List Int) (a b : Int) (hg : goodB l = true) (a0 : 0 ≤ a) (a1 : a < (l.length : Int)) (b0 : 0 ≤ b) (b1 : b < (l.length : Int)) (d : Nat) : ∀ (y : Int) (acc : List (List Int)), loY l ≤ y → y + d = hiY l + 1 → acc.length + d ≤ 1000 →
    Ev (fun k => spec_agMultiples.l0 k l a b acc (hiY l) y) (acc ++ collR (mulC l a b) (mulR l a b) y d) := by
  have hb := range_bounds hg
  induction d with
  | zero =>
    intro y acc h1 h2 h3
    exact Ev.step (f := fun _ => some acc) (fun k => by simp only [spec_agMultiples.l0]; rw [if_neg (by omega)]) (Ev.same (Ev.now _) (by simp [collR]))
  | succ d ih =>
    intro y acc h1 h2 h3
    have ew : wrap64 (y + 1) = y + 1 := w64 (by omega) (by omega)
    obtain ⟨m0, m1, me⟩ := rd_fit hg h1 (by omega) b0 b1
    obtain ⟨n0, n1, ne⟩ := rd_fit hg h1 (by omega) a0 a1
    refine Ev.step (fun k => by simp only [spec_agMultiples.l0]; rw [if_pos (show y ≤ hiY l by omega), if_pos a0, if_pos a1, if_pos b0, if_pos b1, ew, me, ne]) ?_
    have no : mulC l a b y = false → Ev (fun k => spec_agMultiples.l0 k l a b acc (hiY l) (y + 1)) (acc ++ collR (mulC l a b) (mulR l a b) y (d + 1)) := fun e => Ev.same (ih (y + 1) acc (by omega) (by omega) (by omega)) (by simp [collR, e])
    by_cases hp : rd l b + y > 0
    · refine Ev.if_pos hp (Ev.if_neg (by omega) ?_)
      have td := tdiv_small n0 n1 (show 1 ≤ rd l b + y by omega)
      by_cases hm : Int.tmod (rd l a + y) (rd l b + y) = 0
      · refine Ev.if_pos hm ?_
        rw [td]
        by_cases h2' : Int.tdiv (rd l a + y) (rd l b + y) ≥ 2
        · have e : mulC l a b y = true := by unfold mulC; rw [decide_eq_true (show 1 ≤ rd l b + y by omega), decide_eq_true hm, decide_eq_true h2']; rfl
          exact Ev.if_pos h2' (Ev.if_pos (by omega) (Ev.same (ih (y + 1) _ (by omega) (by omega) (by simp; omega)) (by simp [collR, e, mulR])))
        · exact Ev.if_neg h2' (no (by unfold mulC; rw [decide_eq_false h2']; simp))
      · exact Ev.if_neg hm (no (by unfold mulC; rw [decide_eq_false hm]; simp))
    · exact Ev.if_neg hp (no (by unfold mulC; rw [decide_eq_false (show ¬ 1 ≤ rd l b + y by omega)]; rfl))
theorem agMul_f (l : List Int) (a b : Int) (two : twoB l a b = true) : Ev (fun k => spec_agMultiples.f k l a b) (mulOf l a b) := by
  obtain ⟨hg, ⟨a0, a1⟩, ⟨b0, b1⟩, _⟩ := two_good two
  have hn := nY_eq hg
  refine Ev.congr (fun k => by unfold spec_agMultiples.f; rfl) (Ev.bind (agRange_f hg) (Ev.same (agMul_l l a b hg a0 a1 b0 b1 (nY l) (loY l) [] (Int.le_refl _) hn.1 (by simp; omega)) (by simp [mulOf])))
theorem collR_two (p : Int → Bool) (l : List Int) (a b : Int) (d : Nat) : ∀ y, ∀ r ∈ collR p (mulR l a b) y d, r.length = 2 := by
  induction d with
  | zero => intro y r hr; simp [collR] at hr
  | succ d ih =>
    intro y r hr
    by_cases hp : p y = true
    · simp only [collR, hp, if_true, List.mem_cons] at hr
      rcases hr with rfl | hr
      · rfl
      · exact ih _ r hr
    · simp only [collR, hp] at hr
      exact ih _ r hr

end Go.Proofs.Ytbdgeknaddaekaa.P
