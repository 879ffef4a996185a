import Derived.Test.YthhbkmpipmckkaaLAges
import Derived.Test.YthhbkmpipmckkaaLBase
import Derived.Test.YthhbkmpipmckkaaLInyears
import Derived.Test.YthhbkmpipmckkaaLKinds
import Derived.Test.YthhbkmpipmckkaaLRange
import Derived.Test.YthhbkmpipmckkaaLYears
import Derived.Test.YthhbkmpipmckkaaP8
namespace Go.Proofs.Ythhbkmpipmckkaa.P
open Go.RowKit Go.Proofs.YthhbkmpipmckkaaW.PrintWords Go.Proofs.YthhbkmpipmckkaaW.PrintLast Go.Proofs.YthhbkmpipmckkaaW.PrintMore
set_option linter.unusedVariables false
set_option linter.unusedSimpArgs false

/-! ### how many are of a kind -/
def cntK (c : Nat) (l : List Int) : Int := ((l.filter (kV c)).length : Int)
theorem cntK_le (c : Nat) (l : List Int) : cntK c l ≤ (l.length : Int) := by
  unfold cntK
  have := List.length_filter_le (kV c) l
  omega
theorem kiCount_l {c : Nat} (hc : c < 6) {a : ByteArray} (h : a.toList = [kLetter c]) (y : Int) (l : List Int) (hb : l.length ≤ 8) (ok : ∀ x ∈ inY l y, 0 ≤ x ∧ x ≤ 120) (d : Nat) : ∀ (i : Nat) (s : Int), i + d = l.length → 0 ≤ s → s ≤ i → Ev (fun k => spec_kiCount.l0 k y a s l (l.length : Int) (i : Int)) (s + cntK c ((inY l y).drop i)) := by
  have hn := inY_length l y
  induction d with
  | zero =>
    intro i s hi h0 h1
    exact Ev.step (f := fun _ => some s) (fun k => by simp only [spec_kiCount.l0]; rw [if_neg (by omega)]) (Ev.same (Ev.now _) (by rw [List.drop_of_length_le (by omega)]; simp [cntK]))
  | succ d ih =>
    intro i s hi h0 h1
    have ew : wrap64 ((i : Int) + 1) = ((i + 1 : Nat) : Int) := by rw [w64 (by omega) (by omega)]; omega
    have ew2 : wrap64 (s + 1) = s + 1 := w64 (by omega) (by omega)
    have er : wrap64 (rd l (i : Int) + y) = rd (inY l y) (i : Int) := (inY_rd (by omega) (by omega)).symm
    have hm := ok _ (rd_mem (l := inY l y) (i := (i : Int)) (by omega) (by omega))
    have h9 : rd (inY l y) (i : Int) ≤ 960 := by omega
    refine Ev.step (fun k => by simp only [spec_kiCount.l0]; rw [if_pos (show (i : Int) < (l.length : Int) by omega), if_pos (show 0 ≤ (i : Int) by omega), if_pos (show (i : Int) < (l.length : Int) by omega), ew, ew2, er]) (Ev.bind (specK_f hc h hm.1 h9) ?_)
    rw [drop_rd (inY l y) i (by omega)]
    cases hv : kV c (rd (inY l y) (i : Int)) with
    | true => exact Ev.if_pos rfl (Ev.same (ih (i + 1) (s + 1) (by omega) (by omega) (by omega)) (by simp [cntK, List.filter_cons, hv]; omega))
    | false => exact Ev.if_neg (show ¬ (false = true) by decide) (Ev.same (ih (i + 1) s (by omega) (by omega) (by omega)) (by simp [cntK, List.filter_cons, hv]))
theorem kiCount_f {c : Nat} (hc : c < 6) {a : ByteArray} (h : a.toList = [kLetter c]) (y : Int) (l : List Int) (hb : l.length ≤ 8) (ok : ∀ x ∈ inY l y, 0 ≤ x ∧ x ≤ 120) : Ev (fun k => spec_kiCount.f k l y a) (cntK c (inY l y)) := Ev.same (kiCount_l hc h y l hb ok l.length 0 0 (by omega) (by omega) (by omega)) (by simp)
theorem countOf_l {c : Nat} (hc : c < 6) {a : ByteArray} (h : a.toList = [kLetter c]) (l : List Int) (hb : l.length ≤ 8) (ok : ∀ x ∈ l, 0 ≤ x ∧ x ≤ 120) (d : Nat) : ∀ (i : Nat) (s : Int), i + d = l.length → 0 ≤ s → s ≤ i → Ev (fun k => impl_countOf.l0 k a s l (l.length : Int) (i : Int)) (s + cntK c (l.drop i)) := by
  induction d with
  | zero =>
    intro i s hi h0 h1
    exact Ev.step (f := fun _ => some s) (fun k => by simp only [impl_countOf.l0]; rw [if_neg (by omega)]) (Ev.same (Ev.now _) (by rw [List.drop_of_length_le (by omega)]; simp [cntK]))
  | succ d ih =>
    intro i s hi h0 h1
    have ew : wrap64 ((i : Int) + 1) = ((i + 1 : Nat) : Int) := by rw [w64 (by omega) (by omega)]; omega
    have ew2 : wrap64 (s + 1) = s + 1 := w64 (by omega) (by omega)
    have hm := ok _ (rd_mem (l := l) (i := (i : Int)) (by omega) (by omega))
    have h9 : rd l (i : Int) ≤ 960 := by omega
    refine Ev.step (fun k => by simp only [impl_countOf.l0]; rw [if_pos (show (i : Int) < (l.length : Int) by omega), if_pos (show 0 ≤ (i : Int) by omega), if_pos (show (i : Int) < (l.length : Int) by omega), ew, ew2]) (Ev.bind (implK_f hc h hm.1 h9) ?_)
    rw [drop_rd l i (by omega)]
    cases hv : kV c (rd l (i : Int)) with
    | true => exact Ev.if_pos rfl (Ev.same (ih (i + 1) (s + 1) (by omega) (by omega) (by omega)) (by simp [cntK, List.filter_cons, hv]; omega))
    | false => exact Ev.if_neg (show ¬ (false = true) by decide) (Ev.same (ih (i + 1) s (by omega) (by omega) (by omega)) (by simp [cntK, List.filter_cons, hv]))
theorem countOf_f {c : Nat} (hc : c < 6) {a : ByteArray} (h : a.toList = [kLetter c]) (l : List Int) (hb : l.length ≤ 8) (ok : ∀ x ∈ l, 0 ≤ x ∧ x ≤ 120) : Ev (fun k => impl_countOf.f k l a) (cntK c l) := Ev.same (countOf_l hc h l hb ok l.length 0 0 (by omega) (by omega) (by omega)) (by simp)
theorem inY_ok {l : List Int} (hg : goodB l = true) {y : Int} (h0 : loY l ≤ y) (h1 : y ≤ hiY l) : ∀ x ∈ inY l y, 0 ≤ x ∧ x ≤ 120 := by
  rw [inY_fit hg h0 h1]
  intro x hx
  obtain ⟨z, hz, rfl⟩ := List.mem_map.mp hx
  exact (fit_iff (good_len hg).1 y).mp ⟨h0, h1⟩ z hz

end Go.Proofs.Ythhbkmpipmckkaa.P
