/- In one sentence: the program's TurnedAge and the reference's TurnedAge return the same for all arguments, and what the law marks stays marked. Conditions: none. -/
import Derived.Test.YtglgikhmiijdcaaPFnExactTurnedAgex1
namespace Go.Proofs.Ytglgikhmiijdcaa.Pure
open Go.RowKit Go.Proofs.Ytglgikhmiijdcaa.PFnExactTurnedAge Go.Proofs.YtglgikhmiijdcaaW.PrintWords Go.Proofs.YtglgikhmiijdcaaW.PrintLast
set_option linter.unusedVariables false
set_option linter.unusedSimpArgs false

/-! ### plain helpers: numbers and lists -/
theorem w64 {x : Int} (h0 : -9223372036854775808 ≤ x) (h1 : x ≤ 9223372036854775807) : wrap64 x = x := by
  unfold wrap64
  omega
/-- One item for each i, i + 1, .. (d of them) that p takes. -/
def coll (p : Int → Bool) (f : Int → Int) : Int → Nat → List Int
  | _, 0 => []
  | i, d + 1 => if p i = true then f i :: coll p f (i + 1) d else coll p f (i + 1) d
theorem coll_length (p : Int → Bool) (f : Int → Int) (d : Nat) : ∀ i, (coll p f i d).length ≤ d := by
  induction d with
  | zero => intro i; simp [coll]
  | succ d ih =>
    intro i
    have h := ih (i + 1)
    by_cases hp : p i = true
    · simp only [coll, hp, if_true, List.length_cons]; omega
    · simp only [coll, hp]; exact Nat.le_succ_of_le h
theorem Ev.same {α : Type} {g : Nat → Option α} {r s : α} (h : Ev g r) (e : r = s) : Ev g s := e ▸ h
theorem Ev.const {α : Type} {g : Nat → Option α} {r : α} (h : ∀ k, g k = some r) : Ev g r := ⟨0, fun k _ => h k⟩
theorem Ev.if_pos {α : Type} {c : Prop} [Decidable c] {g f : Nat → Option α} {r : α} (hc : c) (h : Ev g r) : Ev (fun k => if c then g k else f k) r := by
  obtain ⟨K, h⟩ := h
  exact ⟨K, fun k hk => by simp only [_root_.if_pos hc]; exact h k hk⟩
theorem Ev.if_neg {α : Type} {c : Prop} [Decidable c] {g f : Nat → Option α} {r : α} (hc : ¬ c) (h : Ev f r) : Ev (fun k => if c then g k else f k) r := by
  obtain ⟨K, h⟩ := h
  exact ⟨K, fun k hk => by simp only [_root_.if_neg hc]; exact h k hk⟩
/-- A call whose value is known at once. -/
theorem Ev.got {α β : Type} {o : Option α} {a : α} {f : Nat → α → Option β} {r : β} (ho : o = some a) (h : Ev (fun k => f k a) r) : Ev (fun k => o.bind (f k)) r := by
  subst ho
  exact h

/-! ### numbers between bounds -/
theorem l1In_f (a b c : Int) : spec_l1In.f a b c = some (decide (b ≤ a ∧ a ≤ c)) := by
  unfold spec_l1In.f
  split
  · rename_i h; simp [h]
  · rename_i h; simp; omega
theorem between_f (a b c : Int) : impl_between.f a b c = some (decide (b ≤ a ∧ a ≤ c)) := by
  unfold impl_between.f
  split
  · rename_i h; simp [h]
  · rename_i h; simp; omega

/-! ### turned ages -/
def tu (n : Int) : Int := n % 10 * 10 + n / 10
theorem tu_wrap (n : Int) (h0 : 0 ≤ n) (h1 : n ≤ 1000000) : wrap64 ((wrap64 ((Int.tmod n 10) * 10)) + (wrap64 (Int.tdiv n 10))) = tu n := by
  rw [Int.tmod_eq_emod_of_nonneg h0, Int.tdiv_eq_ediv_of_nonneg h0]
  unfold tu
  rw [w64 (x := n % 10 * 10) (by omega) (by omega), w64 (x := n / 10) (by omega) (by omega), w64 (by omega) (by omega)]
theorem kiTurned_f (n : Int) (h0 : 0 ≤ n) (h1 : n ≤ 1000000) : spec_kiTurned.f n = some (tu n) := by unfold spec_kiTurned.f; rw [tu_wrap n h0 h1]
theorem turned_f (n : Int) (h0 : 0 ≤ n) (h1 : n ≤ 1000000) : impl_turned.f n = some (tu n) := by unfold impl_turned.f; rw [tu_wrap n h0 h1]

theorem FnExactTurnedAge : laws_FnExactTurnedAge.Pure := by
  intro a0 w0
  simp only [laws_FnExactTurnedAge.f, spec_TurnedAge.f, impl_TurnedAge.f, impl_isTwo.f, l1In_f, between_f, Option.bind_some]
  by_cases h : 10 ≤ a0 ∧ a0 ≤ 99
  · simp [h, kiTurned_f a0 (by omega) (by omega), turned_f a0 (by omega) (by omega)]
  · simp [h]

end Go.Proofs.Ytglgikhmiijdcaa.Pure
