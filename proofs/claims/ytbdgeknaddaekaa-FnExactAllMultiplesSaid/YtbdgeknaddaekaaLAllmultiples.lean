import Derived.Test.YtbdgeknaddaekaaLAges
import Derived.Test.YtbdgeknaddaekaaLAgtwo
import Derived.Test.YtbdgeknaddaekaaLBase
import Derived.Test.YtbdgeknaddaekaaLInyears
import Derived.Test.YtbdgeknaddaekaaLMultiples
import Derived.Test.YtbdgeknaddaekaaLRange
import Derived.Test.YtbdgeknaddaekaaLTwo
import Derived.Test.YtbdgeknaddaekaaLTwos
import Derived.Test.YtbdgeknaddaekaaLYears
import Derived.Test.YtbdgeknaddaekaaP2
import Derived.Test.YtbdgeknaddaekaaP3
namespace Go.Proofs.Ytbdgeknaddaekaa.P
open Go.RowKit Go.Proofs.YtbdgeknaddaekaaW.PrintWords Go.Proofs.YtbdgeknaddaekaaW.PrintLast Go.Proofs.YtbdgeknaddaekaaW.PrintMore
set_option linter.unusedVariables false
set_option linter.unusedSimpArgs false

def amOf (l : List Int) (a b : Int) : List (List Int) × Bool := if twoB l a b = true then (mulOf l a b, true) else ([], false)
theorem amOf_twos (l : List Int) (a b : Int) : Twos 300 (amOf l a b).1 := by
  unfold amOf
  split
  · rename_i h
    have h1 := nY_eq (two_good h).1
    have h2 := collR_length (mulC l a b) (mulR l a b) (nY l) (loY l)
    exact ⟨by show (collR (mulC l a b) (mulR l a b) (loY l) (nY l)).length ≤ 300; omega, collR_two _ l a b _ _⟩
  · exact ⟨by simp, by simp⟩
theorem specAM_f (l : List Int) (a b : Int) : Ev (fun k => spec_AllMultiples.f k l a b) (amOf l a b) := by
  refine Ev.congr (fun k => by unfold spec_AllMultiples.f; rfl) (Ev.bind (agTwo_f l a b) ?_)
  unfold amOf
  cases two : twoB l a b with
  | true => exact Ev.if_pos rfl (Ev.bind (agMul_f l a b two) (Ev.same (Ev.now _) (by simp)))
  | false => exact Ev.if_neg (by simp) (Ev.same (Ev.now _) (by simp))
theorem allYS_l {l : List Int} {a b : Int} (hg : goodB l = true) (a0 : 0 ≤ a) (a1 : a < (l.length : Int)) (b0 : 0 ≤ b) (b1 : b < (l.length : Int)) (d : Nat) : ∀ (y : Int) (acc : List (List Int)), loY l ≤ y → y + d = hiY l + 1 → acc.length + d ≤ 1000 →
    Ev (fun k => allYS.l0 (impl_AllMultiples_1.step l a b) k l acc (hiY l) y) (acc ++ collR (mulC l a b) (mulR l a b) y d) := by
  have hb := range_bounds hg
  have hl := good_len hg
  induction d with
  | zero =>
    intro y acc h1 h2 h3
    exact Ev.step (f := fun _ => some acc) (fun k => by simp only [allYS.l0]; rw [if_neg (by omega)]) (Ev.same (Ev.now _) (by simp [collR]))
  | succ d ih =>
    intro y acc h1 h2 h3
    have ew : wrap64 (y + 1) = y + 1 := w64 (by omega) (by omega)
    obtain ⟨m0, m1, me⟩ := rd_fit hg h1 (show y ≤ hiY l by omega) b0 b1
    obtain ⟨n0, n1, ne⟩ := rd_fit hg h1 (show y ≤ hiY l by omega) a0 a1
    refine Ev.step (fun k => by simp only [allYS.l0]; rw [if_pos (show y ≤ hiY l by omega), ew]) (Ev.bind (inYears_f l y (by omega)) ?_)
    have no : mulC l a b y = false → Ev (fun k => allYS.l0 (impl_AllMultiples_1.step l a b) k l acc (hiY l) (y + 1)) (acc ++ collR (mulC l a b) (mulR l a b) y (d + 1)) := fun e => Ev.same (ih (y + 1) acc (by omega) (by omega) (by omega)) (by simp [collR, e])
    have go : ∀ s : List (List Int), (∀ k, impl_AllMultiples_1.step l a b k (inY l y) acc = some s) → Ev (fun k => allYS.l0 (impl_AllMultiples_1.step l a b) k l s (hiY l) (y + 1)) (acc ++ collR (mulC l a b) (mulR l a b) y (d + 1)) →
        Ev (fun k => (impl_AllMultiples_1.step l a b k (inY l y) acc).bind fun s2 => allYS.l0 (impl_AllMultiples_1.step l a b) k l s2 (hiY l) (y + 1)) (acc ++ collR (mulC l a b) (mulR l a b) y (d + 1)) := fun s hs h => Ev.bind (Ev.const hs) h
    have st : ∀ k, impl_AllMultiples_1.step l a b k (inY l y) acc = if rd l b + y ≥ 1 then (if Int.tmod (rd l a + y) (rd l b + y) = 0 then (if wrap64 (Int.tdiv (rd l a + y) (rd l b + y)) ≥ 2 then (if acc.length < 5864062014805 then some (acc ++ [[wrap64 (rd l a + y - rd l a), wrap64 (Int.tdiv (rd l a + y) (rd l b + y))]]) else none) else some acc) else some acc) else some acc := by
      intro k
      unfold impl_AllMultiples_1.step
      rw [if_pos b0, if_pos (show b < ((inY l y).length : Int) by rw [inY_length]; exact b1), inY_rd b0 b1, me, if_pos a0, if_pos (show a < ((inY l y).length : Int) by rw [inY_length]; exact a1), inY_rd a0 a1, ne, if_pos a1]
    by_cases hp : rd l b + y ≥ 1
    · have td := tdiv_small n0 n1 hp
      by_cases hm : Int.tmod (rd l a + y) (rd l b + y) = 0
      · by_cases h2' : Int.tdiv (rd l a + y) (rd l b + y) ≥ 2
        · have e : mulC l a b y = true := by unfold mulC; rw [decide_eq_true (show 1 ≤ rd l b + y by omega), decide_eq_true hm, decide_eq_true h2']; rfl
          refine go (acc ++ [mulR l a b y]) (fun k => ?_) (Ev.same (ih (y + 1) _ (by omega) (by omega) (by simp; omega)) (by simp [collR, e]))
          rw [st, if_pos hp, if_pos hm, td, if_pos h2', if_pos (show acc.length < 5864062014805 by omega), show rd l a + y - rd l a = y by omega, w64 (by omega) (by omega)]; rfl
        · exact go acc (fun k => by rw [st, if_pos hp, if_pos hm, td, if_neg h2']) (no (by unfold mulC; rw [decide_eq_false h2']; simp))
      · exact go acc (fun k => by rw [st, if_pos hp, if_neg hm]) (no (by unfold mulC; rw [decide_eq_false hm]; simp))
    · exact go acc (fun k => by rw [st, if_neg hp]) (no (by unfold mulC; rw [decide_eq_false (show ¬ 1 ≤ rd l b + y by omega)]; rfl))
theorem implAM_f (l : List Int) (a b : Int) : Ev (fun k => impl_AllMultiples.f k l a b) (amOf l a b) := by
  refine Ev.congr (fun k => by unfold impl_AllMultiples.f; rfl) (Ev.got (areTwo_f l a b) ?_)
  unfold amOf
  cases two : twoB l a b with
  | true =>
    obtain ⟨hg, ⟨a0, a1⟩, ⟨b0, b1⟩, _⟩ := two_good two
    have hn := nY_eq hg
    refine Ev.if_pos rfl (Ev.bind (a := mulOf l a b) ?_ (Ev.same (Ev.now _) (by simp)))
    refine Ev.congr (fun k => by unfold allYS.f; rfl) (Ev.got (fitYears_f hg) (Ev.same (allYS_l hg a0 a1 b0 b1 (nY l) (loY l) [] (Int.le_refl _) hn.1 (by simp; omega)) (by simp [mulOf])))
  | false => exact Ev.if_neg (by simp) (Ev.same (Ev.now _) (by simp))
theorem allM_both (l : List Int) (a b : Int) : ∃ s : List (List Int) × Bool, Twos 300 s.1 ∧ Ev (fun k => spec_AllMultiples.f k l a b) s ∧ Ev (fun k => impl_AllMultiples.f k l a b) s := ⟨amOf l a b, amOf_twos l a b, specAM_f l a b, implAM_f l a b⟩

end Go.Proofs.Ytbdgeknaddaekaa.P
