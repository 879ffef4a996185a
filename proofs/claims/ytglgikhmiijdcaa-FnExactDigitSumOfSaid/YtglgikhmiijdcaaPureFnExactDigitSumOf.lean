/- In one sentence: the program's DigitSumOf and the reference's DigitSumOf return the same for all arguments, and what the law marks stays marked. Conditions: none. -/
import Derived.Test.YtglgikhmiijdcaaPFnExactDigitSumOfx1
namespace Go.Proofs.Ytglgikhmiijdcaa.Pure
open Go.RowKit Go.Proofs.Ytglgikhmiijdcaa.PFnExactDigitSumOf Go.Proofs.YtglgikhmiijdcaaW.PrintWords Go.Proofs.YtglgikhmiijdcaaW.PrintLast
set_option linter.unusedVariables false
set_option linter.unusedSimpArgs false

/-! ### plain helpers: numbers and lists -/
theorem w64 {x : Int} (h0 : -9223372036854775808 ≤ x) (h1 : x ≤ 9223372036854775807) : wrap64 x = x := by
  unfold wrap64
  omega
/-- One item for each i, i + 1, .. (d of them) that p takes. -/
def coll (p : Int → Bool) (f : Int → Int) : Int → Nat → List Int
  | _, 0 => []
  | i, d + 1 => if p i = true then f i :: coll p f (i + 1) d else coll p f (i + 1) d
theorem coll_length (p : Int → Bool) (f : Int → Int) (d : Nat) : ∀ i, (coll p f i d).length ≤ d := by
  induction d with
  | zero => intro i; simp [coll]
  | succ d ih =>
    intro i
    have h := ih (i + 1)
    by_cases hp : p i = true
    · simp only [coll, hp, if_true, List.length_cons]; omega
    · simp only [coll, hp]; exact Nat.le_succ_of_le h
theorem Ev.same {α : Type} {g : Nat → Option α} {r s : α} (h : Ev g r) (e : r = s) : Ev g s := e ▸ h
theorem Ev.const {α : Type} {g : Nat → Option α} {r : α} (h : ∀ k, g k = some r) : Ev g r := ⟨0, fun k _ => h k⟩
theorem Ev.if_pos {α : Type} {c : Prop} [Decidable c] {g f : Nat → Option α} {r : α} (hc : c) (h : Ev g r) : Ev (fun k => if c then g k else f k) r := by
  obtain ⟨K, h⟩ := h
  exact ⟨K, fun k hk => by simp only [_root_.if_pos hc]; exact h k hk⟩
theorem Ev.if_neg {α : Type} {c : Prop} [Decidable c] {g f : Nat → Option α} {r : α} (hc : ¬ c) (h : Ev f r) : Ev (fun k => if c then g k else f k) r := by
  obtain ⟨K, h⟩ := h
  exact ⟨K, fun k hk => by simp only [_root_.if_neg hc]; exact h k hk⟩
/-- A call whose value is known at once. -/
theorem Ev.got {α β : Type} {o : Option α} {a : α} {f : Nat → α → Option β} {r : β} (ho : o = some a) (h : Ev (fun k => f k a) r) : Ev (fun k => o.bind (f k)) r := by
  subst ho
  exact h

/-! ### numbers between bounds -/
theorem l1In_f (a b c : Int) : spec_l1In.f a b c = some (decide (b ≤ a ∧ a ≤ c)) := by
  unfold spec_l1In.f
  split
  · rename_i h; simp [h]
  · rename_i h; simp; omega
theorem between_f (a b c : Int) : impl_between.f a b c = some (decide (b ≤ a ∧ a ≤ c)) := by
  unfold impl_between.f
  split
  · rename_i h; simp [h]
  · rename_i h; simp; omega

/-! ### the sum of digits -/
def ds : Nat → Int → Int
  | 0, _ => 0
  | d + 1, n => n % 10 + ds d (n / 10)
theorem ds_zero (d : Nat) : ds d 0 = 0 := by
  induction d with
  | zero => rfl
  | succ d ih => simp [ds, ih]
theorem kiDigits_l (d : Nat) : ∀ (n s : Int), 0 ≤ n → n < 10 ^ d → 0 ≤ s → s + 10 * d ≤ 1000000 → n ≤ 1000000 → Ev (fun k => spec_kiDigits.l0 k n s) (s + ds d n) := by
  induction d with
  | zero =>
    intro n s h0 h1 _ _ _
    have : n = 0 := by simp at h1; omega
    subst this
    exact Ev.step (f := fun _ => some s) (fun k => by simp [spec_kiDigits.l0]) (Ev.same (Ev.now _) (by simp [ds]))
  | succ d ih =>
    intro n s h0 h1 hs hb hn
    by_cases hp : n > 0
    · have e1 : Int.tdiv n 10 = n / 10 := Int.tdiv_eq_ediv_of_nonneg h0
      have e2 : Int.tmod n 10 = n % 10 := Int.tmod_eq_emod_of_nonneg h0
      have w1 : wrap64 (n / 10) = n / 10 := w64 (by omega) (by omega)
      have w2 : wrap64 (s + n % 10) = s + n % 10 := w64 (by omega) (by omega)
      refine Ev.step (f := fun k => spec_kiDigits.l0 k (n / 10) (s + n % 10)) (fun k => ?_) (Ev.same (ih (n / 10) (s + n % 10) (by omega) ?_ (by omega) (by omega) (by omega)) ?_)
      · simp only [spec_kiDigits.l0]; rw [if_pos hp, e1, e2, w1, w2]
      · rw [Int.pow_succ] at h1; omega
      · simp only [ds]; omega
    · have : n = 0 := by omega
      subst this
      exact Ev.step (f := fun _ => some s) (fun k => by simp [spec_kiDigits.l0]) (Ev.same (Ev.now _) (by rw [ds_zero]; simp))
theorem digitSum_l (d : Nat) : ∀ (n s : Int), 0 ≤ n → n < 10 ^ d → 0 ≤ s → s + 10 * d ≤ 1000000 → n ≤ 1000000 → Ev (fun k => impl_digitSum.l0 k n s) (s + ds d n) := by
  induction d with
  | zero =>
    intro n s h0 h1 _ _ _
    have : n = 0 := by simp at h1; omega
    subst this
    exact Ev.step (f := fun _ => some s) (fun k => by simp [impl_digitSum.l0]) (Ev.same (Ev.now _) (by simp [ds]))
  | succ d ih =>
    intro n s h0 h1 hs hb hn
    by_cases hp : n > 0
    · have e1 : Int.tdiv n 10 = n / 10 := Int.tdiv_eq_ediv_of_nonneg h0
      have e2 : Int.tmod n 10 = n % 10 := Int.tmod_eq_emod_of_nonneg h0
      have w1 : wrap64 (n / 10) = n / 10 := w64 (by omega) (by omega)
      have w2 : wrap64 (s + n % 10) = s + n % 10 := w64 (by omega) (by omega)
      refine Ev.step (f := fun k => impl_digitSum.l0 k (n / 10) (s + n % 10)) (fun k => ?_) (Ev.same (ih (n / 10) (s + n % 10) (by omega) ?_ (by omega) (by omega) (by omega)) ?_)
      · simp only [impl_digitSum.l0]; rw [if_pos hp, e1, e2, w1, w2]
      · rw [Int.pow_succ] at h1; omega
      · simp only [ds]; omega
    · have : n = 0 := by omega
      subst this
      exact Ev.step (f := fun _ => some s) (fun k => by simp [impl_digitSum.l0]) (Ev.same (Ev.now _) (by rw [ds_zero]; simp))
theorem kiDigits_f (n : Int) (h0 : 0 ≤ n) (h1 : n < 100000) : Ev (fun k => spec_kiDigits.f k n) (ds 5 n) :=
  Ev.same (kiDigits_l 5 n 0 h0 (by omega) (by omega) (by omega) (by omega)) (by simp)
theorem digitSum_f (n : Int) (h0 : 0 ≤ n) (h1 : n < 100000) : Ev (fun k => impl_digitSum.f k n) (ds 5 n) :=
  Ev.same (digitSum_l 5 n 0 h0 (by omega) (by omega) (by omega) (by omega)) (by simp)

theorem FnExactDigitSumOf : laws_FnExactDigitSumOf.Pure := by
  intro a0 w0
  obtain ⟨r, b, hs, hi⟩ : ∃ (r : Int) (b : Bool), Ev (fun k => spec_DigitSumOf.f k a0) (r, b) ∧ Ev (fun k => impl_DigitSumOf.f k a0) (r, b) := by
    by_cases h : 0 ≤ a0 ∧ a0 ≤ 120
    · refine ⟨ds 5 a0, true, ?_, ?_⟩
      · refine Ev.congr (fun k => by unfold spec_DigitSumOf.f; simp only [spec_kiAge.f, l1In_f, Option.bind_some]; rfl) (Ev.if_pos (by simpa using h) (Ev.bind (kiDigits_f a0 h.1 (by omega)) (Ev.now _)))
      · refine Ev.congr (fun k => by unfold impl_DigitSumOf.f; simp only [impl_isAge.f, between_f, Option.bind_some]; rfl) (Ev.if_pos (by simpa using h) (Ev.bind (digitSum_f a0 h.1 (by omega)) (Ev.now _)))
    · refine ⟨0, false, ?_, ?_⟩
      · refine Ev.congr (fun k => by unfold spec_DigitSumOf.f; simp only [spec_kiAge.f, l1In_f, Option.bind_some]; rfl) (Ev.if_neg (by simpa using h) (Ev.now _))
      · refine Ev.congr (fun k => by unfold impl_DigitSumOf.f; simp only [impl_isAge.f, between_f, Option.bind_some]; rfl) (Ev.if_neg (by simpa using h) (Ev.now _))
  apply Ev.rounds
  exact Ev.bind hs (Ev.bind hi (Ev.if_pos rfl (Ev.if_neg (by simp) (Ev.now _))))

end Go.Proofs.Ytglgikhmiijdcaa.Pure
