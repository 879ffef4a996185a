/- In one sentence: the program's SquareYearOf and the reference's SquareYearOf return the same for all arguments, and what the law marks stays marked. Conditions: none. -/
import Derived.Test.YtglgikhmiijdcaaPFnExactSquareYearOfx1
namespace Go.Proofs.Ytglgikhmiijdcaa.Pure
open Go.RowKit Go.Proofs.Ytglgikhmiijdcaa.PFnExactSquareYearOf Go.Proofs.YtglgikhmiijdcaaW.PrintWords Go.Proofs.YtglgikhmiijdcaaW.PrintLast
set_option linter.unusedVariables false
set_option linter.unusedSimpArgs false

/-! ### plain helpers: numbers and lists -/
theorem w64 {x : Int} (h0 : -9223372036854775808 ≤ x) (h1 : x ≤ 9223372036854775807) : wrap64 x = x := by
  unfold wrap64
  omega
/-- One item for each i, i + 1, .. (d of them) that p takes. -/
def coll (p : Int → Bool) (f : Int → Int) : Int → Nat → List Int
  | _, 0 => []
  | i, d + 1 => if p i = true then f i :: coll p f (i + 1) d else coll p f (i + 1) d
theorem coll_length (p : Int → Bool) (f : Int → Int) (d : Nat) : ∀ i, (coll p f i d).length ≤ d := by
  induction d with
  | zero => intro i; simp [coll]
  | succ d ih =>
    intro i
    have h := ih (i + 1)
    by_cases hp : p i = true
    · simp only [coll, hp, if_true, List.length_cons]; omega
    · simp only [coll, hp]; exact Nat.le_succ_of_le h
theorem Ev.same {α : Type} {g : Nat → Option α} {r s : α} (h : Ev g r) (e : r = s) : Ev g s := e ▸ h
theorem Ev.const {α : Type} {g : Nat → Option α} {r : α} (h : ∀ k, g k = some r) : Ev g r := ⟨0, fun k _ => h k⟩
theorem Ev.if_pos {α : Type} {c : Prop} [Decidable c] {g f : Nat → Option α} {r : α} (hc : c) (h : Ev g r) : Ev (fun k => if c then g k else f k) r := by
  obtain ⟨K, h⟩ := h
  exact ⟨K, fun k hk => by simp only [_root_.if_pos hc]; exact h k hk⟩
theorem Ev.if_neg {α : Type} {c : Prop} [Decidable c] {g f : Nat → Option α} {r : α} (hc : ¬ c) (h : Ev f r) : Ev (fun k => if c then g k else f k) r := by
  obtain ⟨K, h⟩ := h
  exact ⟨K, fun k hk => by simp only [_root_.if_neg hc]; exact h k hk⟩
/-- A call whose value is known at once. -/
theorem Ev.got {α β : Type} {o : Option α} {a : α} {f : Nat → α → Option β} {r : β} (ho : o = some a) (h : Ev (fun k => f k a) r) : Ev (fun k => o.bind (f k)) r := by
  subst ho
  exact h

/-! ### numbers between bounds -/
theorem l1In_f (a b c : Int) : spec_l1In.f a b c = some (decide (b ≤ a ∧ a ≤ c)) := by
  unfold spec_l1In.f
  split
  · rename_i h; simp [h]
  · rename_i h; simp; omega
theorem between_f (a b c : Int) : impl_between.f a b c = some (decide (b ≤ a ∧ a ≤ c)) := by
  unfold impl_between.f
  split
  · rename_i h; simp [h]
  · rename_i h; simp; omega

theorem kiBirth_f (a : Int) : spec_kiBirth.f a = some (decide (0 ≤ a ∧ a ≤ 2900)) := by simp only [spec_kiBirth.f, l1In_f, Option.bind_some]
theorem isBirth_f (a : Int) : impl_isBirth.f a = some (decide (0 ≤ a ∧ a ≤ 2900)) := by simp only [impl_isBirth.f, between_f, Option.bind_some]

/-! ### the age whose square is the year -/
def sq (b : Int) : Int → Nat → Int
  | _, 0 => -1
  | i, d + 1 => if i * i - i = b then i else sq b (i + 1) d
theorem sq_some (b : Int) (d : Nat) : ∀ i, 0 ≤ i → (sq b i d < 0 ∧ sq b i d = -1) ∨ (i ≤ sq b i d ∧ sq b i d * sq b i d - sq b i d = b) := by
  induction d with
  | zero => intro i _; simp [sq]
  | succ d ih =>
    intro i hi
    by_cases h : i * i - i = b
    · have q : sq b i (d + 1) = i := by simp only [sq]; rw [if_pos h]
      rw [q]
      exact .inr ⟨Int.le_refl _, h⟩
    · have q : sq b i (d + 1) = sq b (i + 1) d := by simp only [sq]; rw [if_neg h]
      rw [q]
      rcases ih (i + 1) (by omega) with ⟨h1, h2⟩ | ⟨h1, h2⟩
      · exact .inl ⟨h1, h2⟩
      · exact .inr ⟨by omega, h2⟩
theorem sq_wrap (i : Int) (h0 : 2 ≤ i) (h1 : i ≤ 120) : wrap64 (wrap64 (i * i) - i) = i * i - i := by
  have a : 0 ≤ i * i := Int.mul_nonneg (by omega) (by omega)
  have b : i * i ≤ 120 * 120 := Int.mul_le_mul h1 h1 (by omega) (by omega)
  rw [w64 (x := i * i) (by omega) (by omega), w64 (by omega) (by omega)]
theorem kiSquare_l (b : Int) (d : Nat) : ∀ (i : Int), 2 ≤ i → i + d = 121 → Ev (fun k => spec_kiSquare.l0 k b i) (sq b i d) := by
  induction d with
  | zero =>
    intro i h0 h1
    exact Ev.step (f := fun _ => some (-1)) (fun k => by simp only [spec_kiSquare.l0]; rw [if_neg (by omega)]) (Ev.now _)
  | succ d ih =>
    intro i h0 h1
    have e := sq_wrap i h0 (by omega)
    have ew : wrap64 (i + 1) = i + 1 := w64 (by omega) (by omega)
    by_cases h : i * i - i = b
    · refine Ev.step (f := fun _ => some i) (fun k => ?_) (Ev.same (Ev.now _) (by simp only [sq]; rw [if_pos h]))
      simp only [spec_kiSquare.l0]; rw [if_pos (by omega), e, if_pos h]
    · refine Ev.step (f := fun k => spec_kiSquare.l0 k b (i + 1)) (fun k => ?_) (Ev.same (ih (i + 1) (by omega) (by omega)) (by simp only [sq]; rw [if_neg h]))
      simp only [spec_kiSquare.l0]; rw [if_pos (by omega), e, if_neg h, ew]
theorem kiSquare_f (b : Int) : Ev (fun k => spec_kiSquare.f k b) (sq b 2 119) := kiSquare_l b 119 2 (by omega) (by omega)

theorem specSquareYearOf_f (b : Int) : Ev (fun k => spec_SquareYearOf.f k b) (if 0 ≤ b ∧ b ≤ 2900 ∧ 0 ≤ sq b 2 119 then (sq b 2 119, true) else (0, false)) := by
  refine Ev.congr (fun k => by unfold spec_SquareYearOf.f; rfl) (Ev.got (kiBirth_f b) ?_)
  by_cases hb : 0 ≤ b ∧ b ≤ 2900
  · refine Ev.if_pos (by simpa using hb) (Ev.bind (kiSquare_f b) ?_)
    by_cases hs : sq b 2 119 < 0
    · exact Ev.if_pos hs (Ev.same (Ev.now _) (by rw [if_neg (by omega)]))
    · exact Ev.if_neg hs (Ev.same (Ev.now _) (by rw [if_pos (by omega)]))
  · exact Ev.if_neg (by simpa using hb) (Ev.same (Ev.now _) (by rw [if_neg (by omega)]))

theorem implSquare_l (b : Int) (d : Nat) : ∀ (i : Int), 2 ≤ i → i + d = 121 → Ev (fun k => impl_SquareYearOf.l0 k b i) (if 0 ≤ sq b i d then (sq b i d, true) else (0, false)) := by
  induction d with
  | zero =>
    intro i h0 h1
    exact Ev.step (f := fun _ => some (0, false)) (fun k => by simp only [impl_SquareYearOf.l0]; rw [if_neg (by omega)]) (Ev.same (Ev.now _) (by simp [sq]))
  | succ d ih =>
    intro i h0 h1
    have e := sq_wrap i h0 (by omega)
    have ew : wrap64 (i + 1) = i + 1 := w64 (by omega) (by omega)
    by_cases h : i * i - i = b
    · refine Ev.step (f := fun _ => some (i, true)) (fun k => ?_) (Ev.same (Ev.now _) ?_)
      · simp only [impl_SquareYearOf.l0]; rw [if_pos (by omega), e, if_pos h]
      · have q : sq b i (d + 1) = i := by simp only [sq]; rw [if_pos h]
        simp only [q]; rw [if_pos (by omega)]
    · have q : sq b i (d + 1) = sq b (i + 1) d := by simp only [sq]; rw [if_neg h]
      refine Ev.step (f := fun k => impl_SquareYearOf.l0 k b (i + 1)) (fun k => ?_) (Ev.same (ih (i + 1) (by omega) (by omega)) (by simp only [q]))
      simp only [impl_SquareYearOf.l0]; rw [if_pos (by omega), e, if_neg h, ew]
theorem implSquareYearOf_f (b : Int) : Ev (fun k => impl_SquareYearOf.f k b) (if 0 ≤ b ∧ b ≤ 2900 ∧ 0 ≤ sq b 2 119 then (sq b 2 119, true) else (0, false)) := by
  refine Ev.congr (fun k => by unfold impl_SquareYearOf.f; rfl) (Ev.got (isBirth_f b) ?_)
  by_cases hb : 0 ≤ b ∧ b ≤ 2900
  · refine Ev.if_pos (by simpa using hb) (Ev.same (implSquare_l b 119 2 (by omega) (by omega)) ?_)
    by_cases hs : 0 ≤ sq b 2 119
    · rw [if_pos hs, if_pos ⟨hb.1, hb.2, hs⟩]
    · rw [if_neg hs, if_neg (fun h => hs h.2.2)]
  · exact Ev.if_neg (by simpa using hb) (Ev.same (Ev.now _) (by rw [if_neg (by omega)]))

theorem FnExactSquareYearOf : laws_FnExactSquareYearOf.Pure := by
  intro a0 w0
  apply Ev.rounds
  exact Ev.bind (specSquareYearOf_f a0) (Ev.bind (implSquareYearOf_f a0) (Ev.if_pos rfl (Ev.if_neg (by simp) (Ev.now _))))

end Go.Proofs.Ytglgikhmiijdcaa.Pure
