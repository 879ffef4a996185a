import Derived.Test.YthhbkmpipmckkaaLBase
import Derived.Test.YthhbkmpipmckkaaLKindis
import Derived.Test.YthhbkmpipmckkaaLKinds
import Derived.Test.YthhbkmpipmckkaaP1
import Derived.Test.YthhbkmpipmckkaaP2
namespace Go.Proofs.Ythhbkmpipmckkaa.P
open Go.RowKit Go.Proofs.YthhbkmpipmckkaaW.PrintWords Go.Proofs.YthhbkmpipmckkaaW.PrintLast Go.Proofs.YthhbkmpipmckkaaW.PrintMore
set_option linter.unusedVariables false
set_option linter.unusedSimpArgs false

/-! ### all kinds of an age -/
def kGot (n : Int) : Nat → Nat → ByteArray → ByteArray
  | 0, _, acc => acc
  | d + 1, i, acc => if kV i n = true then kGot n d (i + 1) (acc ++ ⟨#[kLetter i]⟩) else kGot n d (i + 1) acc
theorem one_size (acc : ByteArray) (c : UInt8) : (acc ++ (⟨#[c]⟩ : ByteArray)).size = acc.size + 1 := by rw [ByteArray.size_append]; rfl
theorem one_list (c : UInt8) : (⟨#[c]⟩ : ByteArray).toList = [c] := Lib.toList_data _
theorem piece (i : Nat) (h : i < 6) : (⟨#[112, 115, 99, 116, 100, 114]⟩ : ByteArray).extract i (i + 1) = ⟨#[kLetter i]⟩ := by
  match i, h with
  | 0, _ => decide
  | 1, _ => decide
  | 2, _ => decide
  | 3, _ => decide
  | 4, _ => decide
  | 5, _ => decide
theorem specKO_l {n : Int} (h0 : 0 ≤ n) (h1 : n ≤ 120) (d : Nat) : ∀ (i : Nat) (acc : ByteArray), i + d = 6 → acc.size ≤ i → Ev (fun k => spec_KindsOf.l0 k n acc (i : Int)) (kGot n d i acc, true) := by
  induction d with
  | zero =>
    intro i acc hi _
    exact Ev.step (f := fun _ => some (acc, true)) (fun k => by simp only [spec_KindsOf.l0]; rw [if_neg (by omega)]) (Ev.now _)
  | succ d ih =>
    intro i acc hi ha
    have ew : wrap64 ((i : Int) + 1) = ((i + 1 : Nat) : Int) := by rw [w64 (by omega) (by omega)]; omega
    have h9 : n ≤ 960 := by omega
    have hp := piece i (by omega)
    refine Ev.step (fun k => by simp only [spec_KindsOf.l0]; rw [if_pos (show (i : Int) < 6 by omega), if_pos (show 0 ≤ (i : Int) by omega), ew, if_pos (show (i : Int) ≤ ((i + 1 : Nat) : Int) by omega), if_pos (show ((i + 1 : Nat) : Int) ≤ 6 by omega), Int.toNat_natCast, Int.toNat_natCast, hp]) ?_
    refine Ev.bind (specK_f (show i < 6 by omega) (one_list _) h0 h9) ?_
    simp only [kGot]
    cases hv : kV i n with
    | true =>
      refine Ev.if_pos rfl (Ev.if_pos (show acc.size + (⟨#[kLetter i]⟩ : ByteArray).size ≤ 9223372036854775807 by have : (⟨#[kLetter i]⟩ : ByteArray).size = 1 := rfl; omega) ?_)
      exact Ev.same (ih (i + 1) _ (by omega) (by rw [one_size]; omega)) (by simp)
    | false => exact Ev.if_neg (show ¬ (false = true) by decide) (Ev.same (ih (i + 1) acc (by omega) (by omega)) (by simp))
def kNames : List ByteArray := [(⟨#[112]⟩ : ByteArray), (⟨#[115]⟩ : ByteArray), (⟨#[99]⟩ : ByteArray), (⟨#[116]⟩ : ByteArray), (⟨#[100]⟩ : ByteArray), (⟨#[114]⟩ : ByteArray)]
theorem names_at (i : Nat) (h : i < 6) : rdOf ByteArray.empty kNames (i : Int) = ⟨#[kLetter i]⟩ := by
  match i, h with
  | 0, _ => rfl
  | 1, _ => rfl
  | 2, _ => rfl
  | 3, _ => rfl
  | 4, _ => rfl
  | 5, _ => rfl
theorem implKO_l {n : Int} (h0 : 0 ≤ n) (h1 : n ≤ 120) (d : Nat) : ∀ (i : Nat) (acc : ByteArray), i + d = 6 → acc.size ≤ i → Ev (fun k => impl_KindsOf.l0 k n acc kNames 6 (i : Int)) (kGot n d i acc, true) := by
  induction d with
  | zero =>
    intro i acc hi _
    exact Ev.step (f := fun _ => some (acc, true)) (fun k => by simp only [impl_KindsOf.l0]; rw [if_neg (by omega)]) (Ev.now _)
  | succ d ih =>
    intro i acc hi ha
    have ew : wrap64 ((i : Int) + 1) = ((i + 1 : Nat) : Int) := by rw [w64 (by omega) (by omega)]; omega
    have h9 : n ≤ 960 := by omega
    have hp := names_at i (by omega)
    have hl : (kNames.length : Int) = 6 := rfl
    refine Ev.step (fun k => by simp only [impl_KindsOf.l0]; rw [if_pos (show (i : Int) < 6 by omega), if_pos (show 0 ≤ (i : Int) by omega), if_pos (show (i : Int) < (kNames.length : Int) by omega), ew, hp]) ?_
    refine Ev.bind (implK_f (show i < 6 by omega) (one_list _) h0 h9) ?_
    simp only [kGot]
    cases hv : kV i n with
    | true =>
      refine Ev.if_pos rfl (Ev.if_pos (show acc.size + (⟨#[kLetter i]⟩ : ByteArray).size ≤ 9223372036854775807 by have : (⟨#[kLetter i]⟩ : ByteArray).size = 1 := rfl; omega) ?_)
      exact Ev.same (ih (i + 1) _ (by omega) (by rw [one_size]; omega)) (by simp)
    | false => exact Ev.if_neg (show ¬ (false = true) by decide) (Ev.same (ih (i + 1) acc (by omega) (by omega)) (by simp))
theorem kindsOf_both (n : Int) : ∃ r : ByteArray × Bool, Ev (fun k => spec_KindsOf.f k n) r ∧ Ev (fun k => impl_KindsOf.f k n) r := by
  by_cases hn : 0 ≤ n ∧ n ≤ 120
  · refine ⟨(kGot n 6 0 ⟨#[]⟩, true), ?_, ?_⟩
    · refine Ev.congr (fun k => by unfold spec_KindsOf.f; rfl) ?_
      exact Ev.got (kiAge_f n) (Ev.if_pos (decide_eq_true hn) (specKO_l hn.1 hn.2 6 0 _ (by omega) (Nat.le_refl _)))
    · refine Ev.congr (fun k => by unfold impl_KindsOf.f; rfl) ?_
      refine Ev.got (isAge_f n) (Ev.if_pos (decide_eq_true hn) ?_)
      exact implKO_l hn.1 hn.2 6 0 _ (by omega) (Nat.le_refl _)
  · refine ⟨(⟨#[]⟩, false), ?_, ?_⟩
    · refine Ev.congr (fun k => by unfold spec_KindsOf.f; rfl) ?_
      exact Ev.got (kiAge_f n) (Ev.if_neg (fun e => hn (of_decide_eq_true e)) (Ev.now _))
    · refine Ev.congr (fun k => by unfold impl_KindsOf.f; rfl) ?_
      exact Ev.got (isAge_f n) (Ev.if_neg (fun e => hn (of_decide_eq_true e)) (Ev.now _))

end Go.Proofs.Ythhbkmpipmckkaa.P
