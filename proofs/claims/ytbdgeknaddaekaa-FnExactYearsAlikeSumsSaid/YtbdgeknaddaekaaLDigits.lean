import Derived.Test.YtbdgeknaddaekaaLBase
import Derived.Test.YtbdgeknaddaekaaP8
import Derived.Test.YtbdgeknaddaekaaP9
namespace Go.Proofs.Ytbdgeknaddaekaa.P
open Go.RowKit Go.Proofs.YtbdgeknaddaekaaW.PrintWords Go.Proofs.YtbdgeknaddaekaaW.PrintLast Go.Proofs.YtbdgeknaddaekaaW.PrintMore
set_option linter.unusedVariables false
set_option linter.unusedSimpArgs false

/-! ### the sum of digits -/
def ds : Nat → Int → Int
  | 0, _ => 0
  | d + 1, n => n % 10 + ds d (n / 10)
theorem ds_zero (d : Nat) : ds d 0 = 0 := by
  induction d with
  | zero => rfl
  | succ d ih => simp [ds, ih]
theorem kiDigits_l (d : Nat) : ∀ (n s : Int), 0 ≤ n → n < 10 ^ d → 0 ≤ s → s + 10 * d ≤ 1000000 → n ≤ 1000000 → Ev (fun k => spec_kiDigits.l0 k n s) (s + ds d n) := by
  induction d with
  | zero =>
    intro n s h0 h1 _ _ _
    have : n = 0 := by simp at h1; omega
    subst this
    exact Ev.step (f := fun _ => some s) (fun k => by simp [spec_kiDigits.l0]) (Ev.same (Ev.now _) (by simp [ds]))
  | succ d ih =>
    intro n s h0 h1 hs hb hn
    by_cases hp : n > 0
    · have e1 : Int.tdiv n 10 = n / 10 := Int.tdiv_eq_ediv_of_nonneg h0
      have e2 : Int.tmod n 10 = n % 10 := Int.tmod_eq_emod_of_nonneg h0
      have w1 : wrap64 (n / 10) = n / 10 := w64 (by omega) (by omega)
      have w2 : wrap64 (s + n % 10) = s + n % 10 := w64 (by omega) (by omega)
      refine Ev.step (f := fun k => spec_kiDigits.l0 k (n / 10) (s + n % 10)) (fun k => ?_) (Ev.same (ih (n / 10) (s + n % 10) (by omega) ?_ (by omega) (by omega) (by omega)) ?_)
      · simp only [spec_kiDigits.l0]; rw [if_pos hp, e1, e2, w1, w2]
      · rw [Int.pow_succ] at h1; omega
      · simp only [ds]; omega
    · have : n = 0 := by omega
      subst this
      exact Ev.step (f := fun _ => some s) (fun k => by simp [spec_kiDigits.l0]) (Ev.same (Ev.now _) (by rw [ds_zero]; simp))
theorem digitSum_l (d : Nat) : ∀ (n s : Int), 0 ≤ n → n < 10 ^ d → 0 ≤ s → s + 10 * d ≤ 1000000 → n ≤ 1000000 → Ev (fun k => impl_digitSum.l0 k n s) (s + ds d n) := by
  induction d with
  | zero =>
    intro n s h0 h1 _ _ _
    have : n = 0 := by simp at h1; omega
    subst this
    exact Ev.step (f := fun _ => some s) (fun k => by simp [impl_digitSum.l0]) (Ev.same (Ev.now _) (by simp [ds]))
  | succ d ih =>
    intro n s h0 h1 hs hb hn
    by_cases hp : n > 0
    · have e1 : Int.tdiv n 10 = n / 10 := Int.tdiv_eq_ediv_of_nonneg h0
      have e2 : Int.tmod n 10 = n % 10 := Int.tmod_eq_emod_of_nonneg h0
      have w1 : wrap64 (n / 10) = n / 10 := w64 (by omega) (by omega)
      have w2 : wrap64 (s + n % 10) = s + n % 10 := w64 (by omega) (by omega)
      refine Ev.step (f := fun k => impl_digitSum.l0 k (n / 10) (s + n % 10)) (fun k => ?_) (Ev.same (ih (n / 10) (s + n % 10) (by omega) ?_ (by omega) (by omega) (by omega)) ?_)
      · simp only [impl_digitSum.l0]; rw [if_pos hp, e1, e2, w1, w2]
      · rw [Int.pow_succ] at h1; omega
      · simp only [ds]; omega
    · have : n = 0 := by omega
      subst this
      exact Ev.step (f := fun _ => some s) (fun k => by simp [impl_digitSum.l0]) (Ev.same (Ev.now _) (by rw [ds_zero]; simp))
theorem kiDigits_f (n : Int) (h0 : 0 ≤ n) (h1 : n < 100000) : Ev (fun k => spec_kiDigits.f k n) (ds 5 n) :=
  Ev.same (kiDigits_l 5 n 0 h0 (by omega) (by omega) (by omega) (by omega)) (by simp)
theorem digitSum_f (n : Int) (h0 : 0 ≤ n) (h1 : n < 100000) : Ev (fun k => impl_digitSum.f k n) (ds 5 n) :=
  Ev.same (digitSum_l 5 n 0 h0 (by omega) (by omega) (by omega) (by omega)) (by simp)

end Go.Proofs.Ytbdgeknaddaekaa.P
