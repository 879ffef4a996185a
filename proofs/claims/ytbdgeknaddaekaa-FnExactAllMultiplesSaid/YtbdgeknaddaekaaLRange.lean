import Derived.Test.YtbdgeknaddaekaaLAges
import Derived.Test.YtbdgeknaddaekaaLBase
import Derived.Test.YtbdgeknaddaekaaP1
import Derived.Test.YtbdgeknaddaekaaP2
import Derived.Test.YtbdgeknaddaekaaP3
namespace Go.Proofs.Ytbdgeknaddaekaa.P
open Go.RowKit Go.Proofs.YtbdgeknaddaekaaW.PrintWords Go.Proofs.YtbdgeknaddaekaaW.PrintLast Go.Proofs.YtbdgeknaddaekaaW.PrintMore
set_option linter.unusedVariables false
set_option linter.unusedSimpArgs false

/-! ### fit years -/
theorem minFrom_le (l : List Int) : ∀ m, minFrom l m ≤ m ∧ ∀ x ∈ l, minFrom l m ≤ x := by
  induction l with
  | nil => intro m; simp [minFrom]
  | cons a l ih =>
    intro m
    simp only [minFrom]
    by_cases h : a < m
    · rw [if_pos h]
      obtain ⟨h1, h2⟩ := ih a
      refine ⟨by omega, fun x hx => ?_⟩
      rcases List.mem_cons.mp hx with rfl | hx
      · exact h1
      · exact h2 x hx
    · rw [if_neg h]
      obtain ⟨h1, h2⟩ := ih m
      refine ⟨h1, fun x hx => ?_⟩
      rcases List.mem_cons.mp hx with rfl | hx
      · omega
      · exact h2 x hx
theorem maxFrom_ge (l : List Int) : ∀ m, m ≤ maxFrom l m ∧ ∀ x ∈ l, x ≤ maxFrom l m := by
  induction l with
  | nil => intro m; simp [maxFrom]
  | cons a l ih =>
    intro m
    simp only [maxFrom]
    by_cases h : m < a
    · rw [if_pos h]
      obtain ⟨h1, h2⟩ := ih a
      refine ⟨by omega, fun x hx => ?_⟩
      rcases List.mem_cons.mp hx with rfl | hx
      · exact h1
      · exact h2 x hx
    · rw [if_neg h]
      obtain ⟨h1, h2⟩ := ih m
      refine ⟨h1, fun x hx => ?_⟩
      rcases List.mem_cons.mp hx with rfl | hx
      · omega
      · exact h2 x hx
theorem minFrom_mem (l : List Int) : ∀ m, minFrom l m = m ∨ minFrom l m ∈ l := by
  induction l with
  | nil => intro m; simp [minFrom]
  | cons a l ih =>
    intro m
    simp only [minFrom]
    by_cases h : a < m
    · rw [if_pos h]
      rcases ih a with e | e
      · exact .inr (by rw [e]; simp)
      · exact .inr (List.mem_cons_of_mem _ e)
    · rw [if_neg h]
      rcases ih m with e | e
      · exact .inl e
      · exact .inr (List.mem_cons_of_mem _ e)
theorem maxFrom_mem (l : List Int) : ∀ m, maxFrom l m = m ∨ maxFrom l m ∈ l := by
  induction l with
  | nil => intro m; simp [maxFrom]
  | cons a l ih =>
    intro m
    simp only [maxFrom]
    by_cases h : m < a
    · rw [if_pos h]
      rcases ih a with e | e
      · exact .inr (by rw [e]; simp)
      · exact .inr (List.mem_cons_of_mem _ e)
    · rw [if_neg h]
      rcases ih m with e | e
      · exact .inl e
      · exact .inr (List.mem_cons_of_mem _ e)
def loY (l : List Int) : Int := -(minFrom (l.drop 1) (rd l 0))
def hiY (l : List Int) : Int := 120 - maxFrom (l.drop 1) (rd l 0)
theorem head_drop {l : List Int} (h : 1 ≤ l.length) : l = rd l 0 :: l.drop 1 := by
  have := drop_rd l 0 (by omega)
  simpa using this
theorem min_all {l : List Int} (h : 1 ≤ l.length) {x : Int} (hx : x ∈ l) : minFrom (l.drop 1) (rd l 0) ≤ x := by
  obtain ⟨h1, h2⟩ := minFrom_le (l.drop 1) (rd l 0)
  rw [head_drop h] at hx
  rcases List.mem_cons.mp hx with rfl | hx
  · exact h1
  · exact h2 x hx
theorem max_all {l : List Int} (h : 1 ≤ l.length) {x : Int} (hx : x ∈ l) : x ≤ maxFrom (l.drop 1) (rd l 0) := by
  obtain ⟨h1, h2⟩ := maxFrom_ge (l.drop 1) (rd l 0)
  rw [head_drop h] at hx
  rcases List.mem_cons.mp hx with rfl | hx
  · exact h1
  · exact h2 x hx
theorem min_in {l : List Int} (h : 1 ≤ l.length) : minFrom (l.drop 1) (rd l 0) ∈ l := by
  rcases minFrom_mem (l.drop 1) (rd l 0) with e | e
  · rw [e]; exact rd_mem (by omega) (by omega)
  · exact List.mem_of_mem_drop e
theorem max_in {l : List Int} (h : 1 ≤ l.length) : maxFrom (l.drop 1) (rd l 0) ∈ l := by
  rcases maxFrom_mem (l.drop 1) (rd l 0) with e | e
  · rw [e]; exact rd_mem (by omega) (by omega)
  · exact List.mem_of_mem_drop e
theorem range_bounds {l : List Int} (hg : goodB l = true) : -120 ≤ loY l ∧ loY l ≤ 0 ∧ 0 ≤ hiY l ∧ hiY l ≤ 120 := by
  have h1 := good_mem hg (min_in (good_len hg).1)
  have h2 := good_mem hg (max_in (good_len hg).1)
  unfold loY hiY
  omega
/-- Years are fit just if all are of an age then. -/
theorem fit_iff {l : List Int} (h : 1 ≤ l.length) (y : Int) : (loY l ≤ y ∧ y ≤ hiY l) ↔ ∀ x ∈ l, 0 ≤ x + y ∧ x + y ≤ 120 := by
  constructor
  · intro hy x hx
    have h1 := min_all h hx
    have h2 := max_all h hx
    unfold loY hiY at hy
    omega
  · intro ha
    have h1 := ha _ (min_in h)
    have h2 := ha _ (max_in h)
    unfold loY hiY
    omega
theorem least_f (m x : Int) : spec_l1Least.f m x = some (if x < m then x else m) := by
  unfold spec_l1Least.f
  by_cases h : m < x
  · rw [if_pos h, if_neg (by omega)]
  · rw [if_neg h]
    by_cases h2 : x < m
    · rw [if_pos h2]
    · rw [if_neg h2]; congr 1; omega
theorem most_f (m x : Int) : spec_l1Most.f m x = some (if m < x then x else m) := by
  unfold spec_l1Most.f
  by_cases h : m > x
  · rw [if_pos h, if_neg (by omega)]
  · rw [if_neg h]
    by_cases h2 : m < x
    · rw [if_pos h2]
    · rw [if_neg h2]; congr 1; omega
theorem agRange_l (l : List Int) (hb : l.length ≤ 1048576) (d : Nat) : ∀ (i : Nat) (m n : Int), i + d = l.length → Ev (fun k => spec_agRange.l0 k m n l (l.length : Int) (i : Int)) (wrap64 (-(minFrom (l.drop i) m)), wrap64 (120 - maxFrom (l.drop i) n)) := by
  induction d with
  | zero =>
    intro i m n hi
    exact Ev.step (f := fun _ => some (wrap64 (-m), wrap64 (120 - n))) (fun k => by simp only [spec_agRange.l0]; rw [if_neg (by omega)]) (Ev.same (Ev.now _) (by rw [List.drop_of_length_le (by omega)]; rfl))
  | succ d ih =>
    intro i m n hi
    have ew : wrap64 ((i : Int) + 1) = ((i + 1 : Nat) : Int) := by rw [w64 (by omega) (by omega)]; omega
    refine Ev.step (f := fun k => spec_agRange.l0 k (if rd l (i : Int) < m then rd l (i : Int) else m) (if n < rd l (i : Int) then rd l (i : Int) else n) l (l.length : Int) ((i + 1 : Nat) : Int)) (fun k => ?_) (Ev.same (ih (i + 1) _ _ (by omega)) (by rw [drop_rd l i (by omega)]; rfl))
    simp only [spec_agRange.l0]; rw [if_pos (by omega), if_pos (by omega), if_pos (by omega), ew, least_f, most_f]; rfl
theorem agRange_f {l : List Int} (hg : goodB l = true) : Ev (fun k => spec_agRange.f k l) (loY l, hiY l) := by
  have hl := good_len hg
  have hb := range_bounds hg
  refine Ev.congr (fun k => by unfold spec_agRange.f; rfl) (Ev.if_pos (by omega) (Ev.same (agRange_l l (by omega) l.length 0 _ _ (by omega)) ?_))
  have e1 : minFrom (l.drop 0) (rd l 0) = minFrom (l.drop 1) (rd l 0) := by
    have := drop_rd l 0 (by omega)
    simp only [Int.ofNat_zero, Nat.zero_add] at this
    rw [this]; simp [minFrom]
  have e2 : maxFrom (l.drop 0) (rd l 0) = maxFrom (l.drop 1) (rd l 0) := by
    have := drop_rd l 0 (by omega)
    simp only [Int.ofNat_zero, Nat.zero_add] at this
    rw [this]; simp [maxFrom]
  rw [e1, e2]
  unfold loY hiY at hb ⊢
  rw [w64 (by omega) (by omega), w64 (by omega) (by omega)]
theorem fitYears_f {l : List Int} (hg : goodB l = true) : impl_fitYears.f l = some (loY l, hiY l) := by
  have hl := good_len hg
  have hb := range_bounds hg
  unfold impl_fitYears.f slices_Min_int_int.f slices_Max_int_int.f
  rw [if_pos (by omega), if_pos (by omega)]
  simp only [Option.bind_some]
  unfold loY hiY at hb ⊢
  rw [w64 (by omega) (by omega), w64 (by omega) (by omega)]

end Go.Proofs.Ytbdgeknaddaekaa.P
