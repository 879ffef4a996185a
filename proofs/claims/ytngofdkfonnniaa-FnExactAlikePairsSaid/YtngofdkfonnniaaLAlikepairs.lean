import Derived.Test.YtngofdkfonnniaaLAges
import Derived.Test.YtngofdkfonnniaaLBase
import Derived.Test.YtngofdkfonnniaaLRows
import Derived.Test.YtngofdkfonnniaaP10
import Derived.Test.YtngofdkfonnniaaP9
namespace Go.Proofs.Ytngofdkfonnniaa.P
open Go.RowKit Go.Proofs.YtngofdkfonnniaaW.PrintWords Go.Proofs.YtngofdkfonnniaaW.PrintLast Go.Proofs.YtngofdkfonnniaaW.PrintMore
set_option linter.unusedVariables false
set_option linter.unusedSimpArgs false

/-! ### pairs of one age -/
def prB (l : List Int) (a : Int) : Nat → Int → List (List Int) → List (List Int)
  | 0, _, acc => acc
  | d + 1, b, acc => prB l a d (b + 1) (if rd l a = rd l b then acc ++ [[a, b]] else acc)
def prA (l : List Int) : Nat → Int → List (List Int) → List (List Int)
  | 0, _, acc => acc
  | d + 1, a, acc => prA l d (a + 1) (prB l a d (a + 1) acc)
def Twos (n : Nat) (s : List (List Int)) : Prop := s.length ≤ n ∧ ∀ x ∈ s, x.length = 2
theorem prB_twos (l : List Int) (a : Int) (d : Nat) : ∀ (b : Int) (acc : List (List Int)) (n : Nat), Twos n acc → Twos (n + d) (prB l a d b acc) := by
  induction d with
  | zero => intro b acc n h; exact h
  | succ d ih =>
    intro b acc n h
    rw [prB]
    have h2 : Twos (n + 1) (if rd l a = rd l b then acc ++ [[a, b]] else acc) := by
      split
      · refine ⟨by have := h.1; simp; omega, fun x hx => ?_⟩
        rcases List.mem_append.mp hx with hx | hx
        · exact h.2 x hx
        · rw [List.mem_singleton.mp hx]; rfl
      · exact ⟨by have := h.1; omega, h.2⟩
    have := ih (b + 1) _ _ h2
    rwa [Nat.add_assoc, Nat.add_comm 1 d] at this
theorem prA_twos (l : List Int) (d : Nat) : ∀ (a : Int) (acc : List (List Int)) (n m : Nat), d ≤ m → Twos n acc → Twos (n + m * d) (prA l d a acc) := by
  induction d with
  | zero => intro a acc n m _ h; exact h
  | succ d ih =>
    intro a acc n m hm h
    rw [prA]
    have h2 := prB_twos l a d (a + 1) acc n h
    have h3 : Twos (n + m) (prB l a d (a + 1) acc) := ⟨by have := h2.1; omega, h2.2⟩
    have := ih (a + 1) _ _ m (by omega) h3
    rw [Nat.mul_succ]
    rwa [Nat.add_assoc, Nat.add_comm m] at this
theorem cells_twos {n : Nat} {s : List (List Int)} (h : Twos n s) : cells s ≤ 2 * (n : Int) := by
  have key : ∀ s : List (List Int), (∀ x ∈ s, x.length = 2) → cells s = 2 * (s.length : Int) := by
    intro s
    induction s with
    | nil => intro _; rfl
    | cons x xs ih =>
      intro hx
      have h1 := hx x (by simp)
      have h2 := ih (fun y hy => hx y (by simp [hy]))
      simp only [cells, List.length_cons]
      omega
  have := key s h.2
  have := h.1
  omega
theorem spec_AlikePairs_l1 {l : List Int} (hl : l.length ≤ 8) (d : Nat) : ∀ (a b : Int) (acc : List (List Int)) (r : List (List Int) × Bool), 0 ≤ a → a < (l.length : Int) → 0 ≤ b → b + d = l.length → acc.length + d ≤ 1000 → Ev (fun k => spec_AlikePairs.l0 k l (prB l a d b acc) (l.length : Int) (a + 1)) r → Ev (fun k => spec_AlikePairs.l1 k l acc a b (l.length : Int) a) r := by
  induction d with
  | zero =>
    intro a b acc r h0 h1 h2 h3 h4 h
    have ew : wrap64 (a + 1) = a + 1 := w64 (by omega) (by omega)
    exact Ev.step (fun k => by simp only [spec_AlikePairs.l1]; rw [if_neg (show ¬ b < (l.length : Int) by omega), ew]; rfl) h
  | succ d ih =>
    intro a b acc r h0 h1 h2 h3 h4 h
    have ew : wrap64 (b + 1) = b + 1 := w64 (by omega) (by omega)
    refine Ev.step (fun k => by simp only [spec_AlikePairs.l1]; rw [if_pos (show b < (l.length : Int) by omega), if_pos h0, if_pos h1, if_pos h2, ew]) ?_
    by_cases he : rd l a = rd l b
    · refine Ev.if_pos he (Ev.if_pos (by omega) (ih a (b + 1) (acc ++ [[a, b]]) r h0 h1 (by omega) (by omega) (by simp; omega) ?_))
      rw [prB, if_pos he] at h; exact h
    · refine Ev.if_neg he (ih a (b + 1) acc r h0 h1 (by omega) (by omega) (by omega) ?_)
      rw [prB, if_neg he] at h; exact h
theorem spec_AlikePairs_l0 {l : List Int} (hl : l.length ≤ 8) (d : Nat) : ∀ (a : Int) (acc : List (List Int)), 0 ≤ a → a + d = l.length → Twos (100 - 8 * d) acc → Ev (fun k => spec_AlikePairs.l0 k l acc (l.length : Int) a) (prA l d a acc, true) := by
  induction d with
  | zero =>
    intro a acc h0 h1 h2
    exact Ev.step (f := fun _ => some (acc, true)) (fun k => by simp only [spec_AlikePairs.l0]; rw [if_neg (by omega)]) (Ev.now _)
  | succ d ih =>
    intro a acc h0 h1 h2
    have ew : wrap64 (a + 1) = a + 1 := w64 (by omega) (by omega)
    have h3 := prB_twos l a d (a + 1) acc _ h2
    refine Ev.step (fun k => by simp only [spec_AlikePairs.l0]; rw [if_pos (show a < (l.length : Int) by omega), ew]) ?_
    refine spec_AlikePairs_l1 hl d a (a + 1) acc _ h0 (by omega) (by omega) (by omega) (by have := h2.1; omega) ?_
    exact ih (a + 1) _ (by omega) (by omega) ⟨by have := h3.1; omega, h3.2⟩
theorem impl_AlikePairs_l1 {l : List Int} (hl : l.length ≤ 8) (d : Nat) : ∀ (a b : Int) (acc : List (List Int)) (r : List (List Int) × Bool), 0 ≤ a → a < (l.length : Int) → 0 ≤ b → b + d = l.length → acc.length + d ≤ 1000 → Ev (fun k => impl_AlikePairs.l0 k l (prB l a d b acc) (l.length : Int) (a + 1)) r → Ev (fun k => impl_AlikePairs.l1 k l acc a b (l.length : Int) a) r := by
  induction d with
  | zero =>
    intro a b acc r h0 h1 h2 h3 h4 h
    have ew : wrap64 (a + 1) = a + 1 := w64 (by omega) (by omega)
    exact Ev.step (fun k => by simp only [impl_AlikePairs.l1]; rw [if_neg (show ¬ b < (l.length : Int) by omega), ew]; rfl) h
  | succ d ih =>
    intro a b acc r h0 h1 h2 h3 h4 h
    have ew : wrap64 (b + 1) = b + 1 := w64 (by omega) (by omega)
    refine Ev.step (fun k => by simp only [impl_AlikePairs.l1]; rw [if_pos (show b < (l.length : Int) by omega), if_pos h0, if_pos h1, if_pos h2, ew]) ?_
    by_cases he : rd l a = rd l b
    · refine Ev.if_pos he (Ev.if_pos (by omega) (ih a (b + 1) (acc ++ [[a, b]]) r h0 h1 (by omega) (by omega) (by simp; omega) ?_))
      rw [prB, if_pos he] at h; exact h
    · refine Ev.if_neg he (ih a (b + 1) acc r h0 h1 (by omega) (by omega) (by omega) ?_)
      rw [prB, if_neg he] at h; exact h
theorem impl_AlikePairs_l0 {l : List Int} (hl : l.length ≤ 8) (d : Nat) : ∀ (a : Int) (acc : List (List Int)), 0 ≤ a → a + d = l.length → Twos (100 - 8 * d) acc → Ev (fun k => impl_AlikePairs.l0 k l acc (l.length : Int) a) (prA l d a acc, true) := by
  induction d with
  | zero =>
    intro a acc h0 h1 h2
    exact Ev.step (f := fun _ => some (acc, true)) (fun k => by simp only [impl_AlikePairs.l0]; rw [if_neg (by omega)]) (Ev.now _)
  | succ d ih =>
    intro a acc h0 h1 h2
    have ew : wrap64 (a + 1) = a + 1 := w64 (by omega) (by omega)
    have h3 := prB_twos l a d (a + 1) acc _ h2
    refine Ev.step (fun k => by simp only [impl_AlikePairs.l0]; rw [if_pos (show a < (l.length : Int) by omega), ew]) ?_
    refine impl_AlikePairs_l1 hl d a (a + 1) acc _ h0 (by omega) (by omega) (by omega) (by have := h2.1; omega) ?_
    exact ih (a + 1) _ (by omega) (by omega) ⟨by have := h3.1; omega, h3.2⟩
theorem alike_both (l : List Int) : ∃ s : List (List Int) × Bool, Twos 100 s.1 ∧ Ev (fun k => spec_AlikePairs.f k l) s ∧ Ev (fun k => impl_AlikePairs.f k l) s := by
  cases hg : goodB l with
  | false =>
    refine ⟨([], false), ⟨by simp, by simp⟩, ?_, ?_⟩
    · refine Ev.congr (fun k => by unfold spec_AlikePairs.f; rfl) ?_
      refine Ev.bind (agGood_f l) ?_
      rw [hg]
      exact Ev.if_neg (show ¬ (false = true) by decide) (Ev.now _)
    · refine Ev.congr (fun k => by unfold impl_AlikePairs.f; rfl) ?_
      refine Ev.got (areAges_f l) ?_
      rw [hg]
      exact Ev.if_neg (show ¬ (false = true) by decide) (Ev.now _)
  | true =>
    have hl := good_len hg
    have h0 : ∀ n, Twos n ([] : List (List Int)) := fun n => ⟨by simp, by simp⟩
    have h1 := prA_twos l l.length 0 [] 0 8 hl.2 (h0 0)
    refine ⟨(prA l l.length 0 [], true), ⟨by have := h1.1; show (prA l l.length 0 []).length ≤ 100; omega, h1.2⟩, ?_, ?_⟩
    · refine Ev.congr (fun k => by unfold spec_AlikePairs.f; rfl) ?_
      refine Ev.bind (agGood_f l) ?_
      rw [hg]
      exact Ev.if_pos rfl (spec_AlikePairs_l0 hl.2 l.length 0 [] (Int.le_refl _) (by omega) (h0 _))
    · refine Ev.congr (fun k => by unfold impl_AlikePairs.f; rfl) ?_
      refine Ev.got (areAges_f l) ?_
      rw [hg]
      exact Ev.if_pos rfl (impl_AlikePairs_l0 hl.2 l.length 0 [] (Int.le_refl _) (by omega) (h0 _))

end Go.Proofs.Ytngofdkfonnniaa.P
