import Derived.Test.YtngofdkfonnniaaLBase
import Derived.Test.YtngofdkfonnniaaP2
namespace Go.Proofs.Ytngofdkfonnniaa.P
open Go.RowKit Go.Proofs.YtngofdkfonnniaaW.PrintWords Go.Proofs.YtngofdkfonnniaaW.PrintLast Go.Proofs.YtngofdkfonnniaaW.PrintMore
set_option linter.unusedVariables false
set_option linter.unusedSimpArgs false

/-! ### fractions in lowest terms -/
theorem gcd_step (m n : Nat) : Nat.gcd m n = Nat.gcd n (m % n) := by rw [Nat.gcd_comm, Nat.gcd_rec, Nat.gcd_comm]
theorem tmod_nat (m n : Nat) : Int.tmod (m : Int) (n : Int) = ((m % n : Nat) : Int) := by
  rw [Int.tmod_eq_emod_of_nonneg (by omega)]; rfl
theorem agLow_l (x y : Int) (n : Nat) : ∀ (m : Nat), 0 < m + n → Ev (fun k => spec_agLow.l0 k x y (m : Int) (n : Int)) (wrap64 (Int.tdiv x (Nat.gcd m n : Nat)), wrap64 (Int.tdiv y (Nat.gcd m n : Nat))) := by
  induction n using Nat.strongRecOn with
  | _ n ih =>
    intro m hp
    by_cases h0 : n = 0
    · subst h0
      refine Ev.step (f := fun _ => some (wrap64 (Int.tdiv x m), wrap64 (Int.tdiv y m))) (fun k => ?_) (Ev.same (Ev.now _) (by simp))
      simp only [spec_agLow.l0]; rw [if_neg (by simp), if_neg (by omega)]
    · refine Ev.step (f := fun k => spec_agLow.l0 k x y (n : Int) ((m % n : Nat) : Int)) (fun k => ?_) (Ev.same (ih (m % n) (Nat.mod_lt _ (by omega)) n (by omega)) (by rw [gcd_step m n]))
      simp only [spec_agLow.l0]; rw [if_pos (by omega), if_neg (by omega), tmod_nat]
theorem divisor_l (n : Nat) : ∀ (m : Nat), m ≤ 1000000 → n ≤ 1000000 → Ev (fun k => impl_divisor.l0 k (m : Int) (n : Int)) ((Nat.gcd m n : Nat) : Int) := by
  induction n using Nat.strongRecOn with
  | _ n ih =>
    intro m hm hn
    by_cases h0 : n = 0
    · subst h0
      refine Ev.step (f := fun _ => some (m : Int)) (fun k => ?_) (Ev.same (Ev.now _) (by simp))
      simp only [impl_divisor.l0]; rw [if_pos (by simp), w64 (x := -(m : Int)) (by omega) (by omega)]
      unfold mx; congr 1; split <;> omega
    · refine Ev.step (f := fun k => impl_divisor.l0 k (n : Int) ((m % n : Nat) : Int)) (fun k => ?_) (Ev.same (ih (m % n) (Nat.mod_lt _ (by omega)) n (by omega) (by have := Nat.mod_lt m (show 0 < n by omega); omega)) (by rw [gcd_step m n]))
      simp only [impl_divisor.l0]; rw [if_neg (by omega), tmod_nat]
/-- Both fractions. -/
def lowOf (a b : Int) : Int × Int := (wrap64 (Int.tdiv a (Nat.gcd a.toNat b.toNat : Nat)), wrap64 (Int.tdiv b (Nat.gcd a.toNat b.toNat : Nat)))
theorem agLow_f (a b : Int) (ha : 0 ≤ a) (hb : 0 < b) : Ev (fun k => spec_agLow.f k a b) (lowOf a b) := by
  obtain ⟨m, rfl⟩ := Int.eq_ofNat_of_zero_le ha
  obtain ⟨n, rfl⟩ := Int.eq_ofNat_of_zero_le (show 0 ≤ b by omega)
  exact Ev.same (agLow_l m n n m (by omega)) (by unfold lowOf; simp)
theorem lowest_f (a b : Int) (ha : 0 ≤ a) (ha1 : a ≤ 1000000) (hb : 0 < b) (hb1 : b ≤ 1000000) : Ev (fun k => impl_lowest.f k a b) (lowOf a b) := by
  obtain ⟨m, rfl⟩ := Int.eq_ofNat_of_zero_le ha
  obtain ⟨n, rfl⟩ := Int.eq_ofNat_of_zero_le (show 0 ≤ b by omega)
  have hg : 0 < Nat.gcd m n := Nat.gcd_pos_of_pos_right _ (by omega)
  exact Ev.bind (divisor_l n m (by omega) (by omega)) (Ev.if_neg (by omega) (Ev.same (Ev.now _) (by unfold lowOf; simp)))

end Go.Proofs.Ytngofdkfonnniaa.P
