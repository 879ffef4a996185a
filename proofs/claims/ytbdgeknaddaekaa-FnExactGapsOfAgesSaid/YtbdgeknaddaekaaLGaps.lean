import Derived.Test.YtbdgeknaddaekaaLAges
import Derived.Test.YtbdgeknaddaekaaLBase
import Derived.Test.YtbdgeknaddaekaaLOrder
import Derived.Test.YtbdgeknaddaekaaLOrderspec
import Derived.Test.YtbdgeknaddaekaaP13
namespace Go.Proofs.Ytbdgeknaddaekaa.P
open Go.RowKit Go.Proofs.YtbdgeknaddaekaaW.PrintWords Go.Proofs.YtbdgeknaddaekaaW.PrintLast Go.Proofs.YtbdgeknaddaekaaW.PrintMore
set_option linter.unusedVariables false
set_option linter.unusedSimpArgs false

/-! ### gaps -/
def gpL (l s : List Int) : Nat → Nat → List Int
  | 0, _ => []
  | d + 1, i => wrap64 (rd l (rd s ((i : Int) - 1)) - rd l (rd s (i : Int))) :: gpL l s d (i + 1)
theorem gpL_length (l s : List Int) (d : Nat) : ∀ i, (gpL l s d i).length = d := by
  induction d with
  | zero => intro i; rfl
  | succ d ih => intro i; simp [gpL, ih]
theorem spec_GapsOfAges_l {l s : List Int} (hs : s.length ≤ 8) (hok : AgeOk l s) (d : Nat) : ∀ (i : Nat) (acc : List Int), 1 ≤ i → i + d = s.length → acc.length + d ≤ 100 → Ev (fun k => spec_GapsOfAges.l0 k l s acc (i : Int)) (acc ++ gpL l s d i, true) := by
  induction d with
  | zero =>
    intro i acc h0 h1 h2
    exact Ev.step (f := fun _ => some (acc, true)) (fun k => by simp only [spec_GapsOfAges.l0]; rw [if_neg (by omega)]) (Ev.same (Ev.now _) (by simp [gpL]))
  | succ d ih =>
    intro i acc h0 h1 h2
    have ew : wrap64 ((i : Int) + 1) = ((i + 1 : Nat) : Int) := by rw [w64 (by omega) (by omega)]; omega
    have em : wrap64 ((i : Int) - 1) = (i : Int) - 1 := w64 (by omega) (by omega)
    have a1 := hok _ (rd_mem (l := s) (i := (i : Int) - 1) (by omega) (by omega))
    have a2 := hok _ (rd_mem (l := s) (i := (i : Int)) (by omega) (by omega))
    refine Ev.step (fun k => by simp only [spec_GapsOfAges.l0]; rw [if_pos (show (i : Int) < (s.length : Int) by omega), ew, em, if_pos (show 0 ≤ (i : Int) - 1 by omega), if_pos (show (i : Int) - 1 < (s.length : Int) by omega), if_pos a1.1, if_pos a1.2, if_pos (show 0 ≤ (i : Int) by omega), if_pos a2.1, if_pos a2.2, if_pos (show acc.length < 17592186044416 by omega)]) ?_
    exact Ev.same (ih (i + 1) _ (by omega) (by omega) (by simp; omega)) (by simp [gpL])
theorem impl_GapsOfAges_l {l s : List Int} (hs : s.length ≤ 8) (hok : AgeOk l s) (d : Nat) : ∀ (i : Nat) (acc : List Int), 1 ≤ i → i + d = s.length → acc.length + d ≤ 100 → Ev (fun k => impl_GapsOfAges.l0 k l s acc (i : Int)) (acc ++ gpL l s d i, true) := by
  induction d with
  | zero =>
    intro i acc h0 h1 h2
    exact Ev.step (f := fun _ => some (acc, true)) (fun k => by simp only [impl_GapsOfAges.l0]; rw [if_neg (by omega)]) (Ev.same (Ev.now _) (by simp [gpL]))
  | succ d ih =>
    intro i acc h0 h1 h2
    have ew : wrap64 ((i : Int) + 1) = ((i + 1 : Nat) : Int) := by rw [w64 (by omega) (by omega)]; omega
    have em : wrap64 ((i : Int) - 1) = (i : Int) - 1 := w64 (by omega) (by omega)
    have a1 := hok _ (rd_mem (l := s) (i := (i : Int) - 1) (by omega) (by omega))
    have a2 := hok _ (rd_mem (l := s) (i := (i : Int)) (by omega) (by omega))
    refine Ev.step (fun k => by simp only [impl_GapsOfAges.l0]; rw [if_pos (show (i : Int) < (s.length : Int) by omega), ew, em, if_pos (show 0 ≤ (i : Int) - 1 by omega), if_pos (show (i : Int) - 1 < (s.length : Int) by omega), if_pos a1.1, if_pos a1.2, if_pos (show 0 ≤ (i : Int) by omega), if_pos a2.1, if_pos a2.2, if_pos (show acc.length < 17592186044416 by omega)]) ?_
    exact Ev.same (ih (i + 1) _ (by omega) (by omega) (by simp; omega)) (by simp [gpL])
def gaOf (l : List Int) : List Int × Bool := if goodB l = true then (gpL l (sortN l l.length) (l.length - 1) 1, true) else ([], false)
theorem gaOf_length (l : List Int) : (gaOf l).1.length ≤ 9 := by
  unfold gaOf
  split
  · rename_i h; have := good_len h; rw [gpL_length]; omega
  · simp
theorem specGA_f (l : List Int) : Ev (fun k => spec_GapsOfAges.f k l) (gaOf l) := by
  refine Ev.congr (fun k => by unfold spec_GapsOfAges.f; rfl) ?_
  refine Ev.bind (agGood_f l) ?_
  unfold gaOf
  cases hg : goodB l with
  | true =>
    have hl := good_len hg
    have hn := sortN_length l l.length
    exact Ev.if_pos rfl (Ev.bind (agOrder_f hg) (Ev.same (spec_GapsOfAges_l (by omega) (fun z hz => sortN_mem l l.length z hz) (l.length - 1) 1 [] (Nat.le_refl _) (by omega) (by simp; omega)) (by simp)))
  | false => exact Ev.if_neg (show ¬ (false = true) by decide) (Ev.same (Ev.now _) (by simp))
theorem implGA_f (l : List Int) : Ev (fun k => impl_GapsOfAges.f k l) (gaOf l) := by
  refine Ev.congr (fun k => by unfold impl_GapsOfAges.f; rfl) ?_
  refine Ev.got (areAges_f l) ?_
  unfold gaOf
  cases hg : goodB l with
  | true =>
    have hl := good_len hg
    have hn := sortN_length l l.length
    exact Ev.if_pos rfl (Ev.got (order_f hg) (Ev.same (impl_GapsOfAges_l (by omega) (fun z hz => sortN_mem l l.length z hz) (l.length - 1) 1 [] (Nat.le_refl _) (by omega) (by simp; omega)) (by simp)))
  | false => exact Ev.if_neg (show ¬ (false = true) by decide) (Ev.same (Ev.now _) (by simp))

end Go.Proofs.Ytbdgeknaddaekaa.P
