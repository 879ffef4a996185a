import Derived.Test.YthhbkmpipmckkaaP1
import Derived.Test.YthhbkmpipmckkaaP2
namespace Go.Proofs.Ythhbkmpipmckkaa.P
open Go.RowKit Go.Proofs.YthhbkmpipmckkaaW.PrintWords Go.Proofs.YthhbkmpipmckkaaW.PrintLast Go.Proofs.YthhbkmpipmckkaaW.PrintMore
set_option linter.unusedVariables false
set_option linter.unusedSimpArgs false

/-! ### kinds of numbers -/
def sqNext (m : Nat) (s i : Int) : Int := match m with | 0 => wrap64 (i * i) | 1 => wrap64 (wrap64 (i * i) * i) | _ => wrap64 (s + i)
/-- The reference's search, with no text in it. -/
def sqL (m : Nat) : Nat → Int → Int → Int → Option Bool
  | 0, _, _, _ => none
  | k + 1, n, s, i => if s ≤ n then (if sqNext m s i = n then some true else sqL m k n (sqNext m s i) (wrap64 (i + 1))) else some false
theorem l1_s (a : ByteArray) (h : a.toList = [115]) : ∀ k n s i, spec_kiIs.l1 k n a s i = sqL 0 k n s i
  | 0, _, _, _ => by simp [spec_kiIs.l1, sqL]
  | k + 1, n, s, i => by
    rw [spec_kiIs.l1, sqL]
    simp only [l1_s a h k, if_pos h]
    rfl
theorem l1_c (a : ByteArray) (h : a.toList = [99]) : ∀ k n s i, spec_kiIs.l1 k n a s i = sqL 1 k n s i
  | 0, _, _, _ => by simp [spec_kiIs.l1, sqL]
  | k + 1, n, s, i => by
    rw [spec_kiIs.l1, sqL]
    simp only [l1_c a h k, if_neg (show ¬ a.toList = [115] by rw [h]; decide), if_pos h]
    rfl
theorem l1_t (a : ByteArray) (h : a.toList = [116]) : ∀ k n s i, spec_kiIs.l1 k n a s i = sqL 2 k n s i
  | 0, _, _, _ => by simp [spec_kiIs.l1, sqL]
  | k + 1, n, s, i => by
    rw [spec_kiIs.l1, sqL]
    simp only [l1_t a h k, if_neg (show ¬ a.toList = [115] by rw [h]; decide), if_neg (show ¬ a.toList = [99] by rw [h]; decide)]
    rfl
/-- What the program tells of a number, by the letter's place. -/
def kI (c : Nat) (k : Nat) (n : Int) : Option Bool := match c with
  | 0 => impl_isPrime.f k n
  | 1 => madeO.f impl_ofKind_1.f k n
  | 2 => madeO.f impl_ofKind_2.f k n
  | 3 => madeO.f impl_ofKind_3.f k n
  | 4 => impl_areAlike.f k n
  | _ => if n ≥ 10 then some (Int.tmod n 10 == 0) else some false
/-- What the reference tells of it. -/
def kS (c : Nat) (k : Nat) (n : Int) : Option Bool := match c with
  | 0 => spec_kiPrime.f k n
  | 1 => sqL 0 k n 0 0
  | 2 => sqL 1 k n 0 0
  | 3 => sqL 2 k n 0 0
  | 4 => spec_kiIs.l0 k n (Int.tmod n 10) n
  | _ => if n ≥ 10 then some (Int.tmod n 10 == 0) else some false
def kLetter (c : Nat) : UInt8 := match c with | 0 => 112 | 1 => 115 | 2 => 99 | 3 => 116 | 4 => 100 | _ => 114
def kV (c : Nat) (n : Int) : Bool := (kI c 50 n).getD false
set_option maxRecDepth 100000 in
theorem kTable0 : (List.range 961).all (fun n => kI 0 50 (n : Int) == kS 0 50 (n : Int) && (kI 0 50 (n : Int)).isSome) = true := by decide +kernel
set_option maxRecDepth 100000 in
theorem kTable1 : (List.range 961).all (fun n => kI 1 50 (n : Int) == kS 1 50 (n : Int) && (kI 1 50 (n : Int)).isSome) = true := by decide +kernel
set_option maxRecDepth 100000 in
theorem kTable2 : (List.range 961).all (fun n => kI 2 50 (n : Int) == kS 2 50 (n : Int) && (kI 2 50 (n : Int)).isSome) = true := by decide +kernel
set_option maxRecDepth 100000 in
theorem kTable3 : (List.range 961).all (fun n => kI 3 50 (n : Int) == kS 3 50 (n : Int) && (kI 3 50 (n : Int)).isSome) = true := by decide +kernel
set_option maxRecDepth 100000 in
theorem kTable4 : (List.range 961).all (fun n => kI 4 50 (n : Int) == kS 4 50 (n : Int) && (kI 4 50 (n : Int)).isSome) = true := by decide +kernel
theorem kTable5 (n : Int) : kI 5 50 n = kS 5 50 n ∧ (kI 5 50 n).isSome = true := by
  refine ⟨rfl, ?_⟩
  show (if n ≥ 10 then some (Int.tmod n 10 == 0) else some false).isSome = true
  split <;> rfl
theorem kTable {c : Nat} (hc : c < 6) {n : Int} (h0 : 0 ≤ n) (h1 : n ≤ 960) : kI c 50 n = some (kV c n) ∧ kS c 50 n = some (kV c n) := by
  have key : kI c 50 n = kS c 50 n ∧ (kI c 50 n).isSome = true := by
    have pick : ∀ d, (List.range 961).all (fun n => kI d 50 (n : Int) == kS d 50 (n : Int) && (kI d 50 (n : Int)).isSome) = true → kI d 50 n = kS d 50 n ∧ (kI d 50 n).isSome = true := by
      intro d h
      have := List.all_eq_true.mp h n.toNat (List.mem_range.mpr (by omega))
      rw [show ((n.toNat : Nat) : Int) = n by omega] at this
      simpa using this
    match c, hc with
    | 0, _ => exact pick 0 kTable0
    | 1, _ => exact pick 1 kTable1
    | 2, _ => exact pick 2 kTable2
    | 3, _ => exact pick 3 kTable3
    | 4, _ => exact pick 4 kTable4
    | 5, _ => exact kTable5 n
  obtain ⟨b, hb⟩ := Option.isSome_iff_exists.mp key.2
  rw [← key.1]
  unfold kV
  rw [hb]
  exact ⟨rfl, rfl⟩
theorem implK_eq {c : Nat} (hc : c < 6) {a : ByteArray} (h : a.toList = [kLetter c]) (k : Nat) (n : Int) : impl_ofKind.f k n a = kI c k n := by
  unfold impl_ofKind.f
  rw [h]
  match c, hc with
  | 0, _ => rfl
  | 1, _ => rfl
  | 2, _ => rfl
  | 3, _ => rfl
  | 4, _ => rfl
  | 5, _ => rfl
theorem specK_eq {c : Nat} (hc : c < 6) {a : ByteArray} (h : a.toList = [kLetter c]) (k : Nat) (n : Int) : spec_kiIs.f k n a = kS c k n := by
  unfold spec_kiIs.f
  match c, hc with
  | 0, _ => rw [h]; exact (if_pos rfl).trans (by show (spec_kiPrime.f k n).bind (fun t => some t) = spec_kiPrime.f k n; cases spec_kiPrime.f k n <;> rfl)
  | 1, _ => rw [l1_s a h k]; rw [h]; rfl
  | 2, _ => rw [l1_c a h k]; rw [h]; rfl
  | 3, _ => rw [l1_t a h k]; rw [h]; rfl
  | 4, _ => rw [h]; rfl
  | 5, _ => rw [h]; rfl
theorem Ev.mono {α : Type} {g : Nat → Option α} (hm : ∀ k, LeO (g k) (g (k + 1))) {K : Nat} {r : α} (h : g K = some r) : Ev g r :=
  ⟨K, fun k hk => by induction hk with | refl => exact h | step _ ih => exact hm _ _ ih⟩
theorem implK_f {c : Nat} (hc : c < 6) {a : ByteArray} (h : a.toList = [kLetter c]) {n : Int} (h0 : 0 ≤ n) (h1 : n ≤ 960) : Ev (fun k => impl_ofKind.f k n a) (kV c n) :=
  Ev.mono (fun k => impl_ofKind.mono n a k) (K := 50) ((implK_eq hc h 50 n).trans (kTable hc h0 h1).1)
theorem specK_f {c : Nat} (hc : c < 6) {a : ByteArray} (h : a.toList = [kLetter c]) {n : Int} (h0 : 0 ≤ n) (h1 : n ≤ 960) : Ev (fun k => spec_kiIs.f k n a) (kV c n) :=
  Ev.mono (fun k => spec_kiIs.mono n a k) (K := 50) ((specK_eq hc h 50 n).trans (kTable hc h0 h1).2)
theorem kind_letter {a : ByteArray} (h : kindB a = true) : ∃ c, c < 6 ∧ a.toList = [kLetter c] := by
  unfold kindB at h
  simp only [List.any_cons, List.any_nil, Bool.or_eq_true, beq_iff_eq] at h
  rcases h with h | h | h | h | h | h | h
  · exact ⟨0, by omega, h⟩
  · exact ⟨1, by omega, h⟩
  · exact ⟨2, by omega, h⟩
  · exact ⟨3, by omega, h⟩
  · exact ⟨4, by omega, h⟩
  · exact ⟨5, by omega, h⟩
  · cases h
theorem letter_kind {a : ByteArray} {c : Nat} (hc : c < 6) (h : a.toList = [kLetter c]) : kindB a = true := by
  unfold kindB
  rw [h]
  match c, hc with
  | 0, _ => rfl
  | 1, _ => rfl
  | 2, _ => rfl
  | 3, _ => rfl
  | 4, _ => rfl
  | 5, _ => rfl
theorem kiKind_f (a : ByteArray) : spec_kiKind.f a = some (kindB a) := by
  unfold spec_kiKind.f kindB
  simp only [List.any_cons, List.any_nil, Bool.or_false]
  by_cases h1 : a.toList = [112]
  · rw [if_pos h1]; simp [h1]
  · rw [if_neg h1]
    by_cases h2 : a.toList = [115]
    · rw [if_pos h2]; simp [h2]
    · rw [if_neg h2]
      by_cases h3 : a.toList = [99]
      · rw [if_pos h3]; simp [h3]
      · rw [if_neg h3]
        by_cases h4 : a.toList = [116]
        · rw [if_pos h4]; simp [h4]
        · rw [if_neg h4]
          by_cases h5 : a.toList = [100]
          · rw [if_pos h5]; simp [h5]
          · rw [if_neg h5, beq_eq_false_iff_ne.mpr h1, beq_eq_false_iff_ne.mpr h2, beq_eq_false_iff_ne.mpr h3, beq_eq_false_iff_ne.mpr h4, beq_eq_false_iff_ne.mpr h5]; rfl
theorem isKind_f (a : ByteArray) : impl_isKind.f a = some (kindB a) := rfl

end Go.Proofs.Ythhbkmpipmckkaa.P
