import Derived.Test.YtekkcbafilnffaaP0
import Derived.Test.YtekkcbafilnffaaP1
import Derived.Test.YtekkcbafilnffaaP2
import Derived.Test.YtekkcbafilnffaaP3
import Derived.Test.YtekkcbafilnffaaP4
import Derived.Test.YtekkcbafilnffaaP5
import Derived.Test.YtekkcbafilnffaaP6
import Derived.Test.YtekkcbafilnffaaP7
namespace Go.Proofs.Ytekkcbafilnffaa.P
open Go.RowKit Go.Proofs.YtekkcbafilnffaaW.PrintWords Go.Proofs.YtekkcbafilnffaaW.PrintLast Go.Proofs.YtekkcbafilnffaaW.PrintMore
set_option linter.unusedVariables false
set_option linter.unusedSimpArgs false

/-! #### base -/
/-! ### plain helpers: numbers and lists -/
theorem w64 {x : Int} (h0 : -9223372036854775808 ≤ x) (h1 : x ≤ 9223372036854775807) : wrap64 x = x := by
  unfold wrap64
  omega
/-- One item for each i, i + 1, .. (d of them) that p takes. -/
def coll (p : Int → Bool) (f : Int → Int) : Int → Nat → List Int
  | _, 0 => []
  | i, d + 1 => if p i = true then f i :: coll p f (i + 1) d else coll p f (i + 1) d
theorem coll_length (p : Int → Bool) (f : Int → Int) (d : Nat) : ∀ i, (coll p f i d).length ≤ d := by
  induction d with
  | zero => intro i; simp [coll]
  | succ d ih =>
    intro i
    have h := ih (i + 1)
    by_cases hp : p i = true
    · simp only [coll, hp, if_true, List.length_cons]; omega
    · simp only [coll, hp]; exact Nat.le_succ_of_le h
theorem Ev.same {α : Type} {g : Nat → Option α} {r s : α} (h : Ev g r) (e : r = s) : Ev g s := e ▸ h
theorem Ev.const {α : Type} {g : Nat → Option α} {r : α} (h : ∀ k, g k = some r) : Ev g r := ⟨0, fun k _ => h k⟩
theorem Ev.if_pos {α : Type} {c : Prop} [Decidable c] {g f : Nat → Option α} {r : α} (hc : c) (h : Ev g r) : Ev (fun k => if c then g k else f k) r := by
  obtain ⟨K, h⟩ := h
  exact ⟨K, fun k hk => by simp only [_root_.if_pos hc]; exact h k hk⟩
theorem Ev.if_neg {α : Type} {c : Prop} [Decidable c] {g f : Nat → Option α} {r : α} (hc : ¬ c) (h : Ev f r) : Ev (fun k => if c then g k else f k) r := by
  obtain ⟨K, h⟩ := h
  exact ⟨K, fun k hk => by simp only [_root_.if_neg hc]; exact h k hk⟩
/-- A call whose value is known at once. -/
theorem Ev.got {α β : Type} {o : Option α} {a : α} {f : Nat → α → Option β} {r : β} (ho : o = some a) (h : Ev (fun k => f k a) r) : Ev (fun k => o.bind (f k)) r := by
  subst ho
  exact h

/-! #### in -/
/-! ### numbers between bounds -/
theorem l1In_f (a b c : Int) : spec_l1In.f a b c = some (decide (b ≤ a ∧ a ≤ c)) := by
  unfold spec_l1In.f
  split
  · rename_i h; simp [h]
  · rename_i h; simp; omega
theorem between_f (a b c : Int) : impl_between.f a b c = some (decide (b ≤ a ∧ a ≤ c)) := by
  unfold impl_between.f
  split
  · rename_i h; simp [h]
  · rename_i h; simp; omega

/-! #### ages -/
/-! ### ages -/
def allB (l : List Int) (a b : Int) : Bool := l.all fun x => decide (a ≤ x ∧ x ≤ b)
def goodB (l : List Int) : Bool := decide (1 ≤ (l.length : Int) ∧ (l.length : Int) ≤ 8) && allB l 0 120
theorem allB_mem {l : List Int} {a b : Int} (h : allB l a b = true) {x : Int} (hx : x ∈ l) : a ≤ x ∧ x ≤ b := by
  unfold allB at h
  simpa using List.all_eq_true.mp h x hx
theorem good_len {l : List Int} (h : goodB l = true) : 1 ≤ l.length ∧ l.length ≤ 8 := by
  unfold goodB at h
  simp at h
  omega
theorem good_all {l : List Int} (h : goodB l = true) : allB l 0 120 = true := by
  unfold goodB at h
  simp only [Bool.and_eq_true] at h
  exact h.2
theorem good_mem {l : List Int} (h : goodB l = true) {x : Int} (hx : x ∈ l) : 0 ≤ x ∧ x ≤ 120 := allB_mem (good_all h) hx
theorem rd_at (l : List Int) (i : Nat) (h : i < l.length) : rd l (i : Int) = l[i] := by simp [rd, List.getD_eq_getElem?_getD, List.getElem?_eq_getElem h]
theorem rd_mem {l : List Int} {i : Int} (h0 : 0 ≤ i) (h1 : i < (l.length : Int)) : rd l i ∈ l := by
  obtain ⟨n, rfl⟩ := Int.eq_ofNat_of_zero_le h0
  rw [rd_at l n (by omega)]
  exact List.getElem_mem _
theorem drop_rd (l : List Int) (i : Nat) (h : i < l.length) : l.drop i = rd l (i : Int) :: l.drop (i + 1) := by rw [rd_at l i h]; exact List.drop_eq_getElem_cons h
theorem l1All_l (l : List Int) (a b : Int) (hb : l.length ≤ 4611686018427387904) (d : Nat) : ∀ (i : Nat), i + d = l.length → Ev (fun k => spec_l1All.l0 k a b l (l.length : Int) (i : Int)) (allB (l.drop i) a b) := by
  induction d with
  | zero =>
    intro i hi
    exact Ev.step (f := fun _ => some true) (fun k => by simp only [spec_l1All.l0]; rw [if_neg (by omega)]) (Ev.same (Ev.now _) (by rw [List.drop_of_length_le (by omega)]; rfl))
  | succ d ih =>
    intro i hi
    have ew : wrap64 ((i : Int) + 1) = ((i + 1 : Nat) : Int) := by rw [w64 (by omega) (by omega)]; omega
    refine Ev.step (fun k => by simp only [spec_l1All.l0]; rw [if_pos (by omega), if_pos (by omega), if_pos (by omega), ew, l1In_f]) ?_
    rw [drop_rd l i (by omega)]
    by_cases h : a ≤ rd l (i : Int) ∧ rd l (i : Int) ≤ b
    · exact Ev.if_pos (by simpa using h) (Ev.same (ih (i + 1) (by omega)) (by simp [allB, h]))
    · exact Ev.if_neg (by simpa using h) (Ev.same (Ev.now _) (by simp only [allB, List.all_cons, decide_eq_false h, Bool.false_and]))
theorem l1All_f (l : List Int) (a b : Int) (hb : l.length ≤ 4611686018427387904) : Ev (fun k => spec_l1All.f k l a b) (allB l a b) :=
  Ev.same (l1All_l l a b hb l.length 0 (by omega)) (by simp)
theorem agGood_f (l : List Int) : Ev (fun k => spec_agGood.f k l) (goodB l) := by
  refine Ev.congr (fun k => by unfold spec_agGood.f; rfl) (Ev.got (l1In_f (l.length : Int) 1 8) ?_)
  by_cases h : 1 ≤ (l.length : Int) ∧ (l.length : Int) ≤ 8
  · refine Ev.if_pos (by simpa using h) (Ev.bind (l1All_f l 0 120 (by omega)) (Ev.same (Ev.now _) ?_))
    unfold goodB; rw [decide_eq_true h]; simp
  · refine Ev.if_neg (by simpa using h) (Ev.same (Ev.now _) ?_)
    unfold goodB; rw [decide_eq_false h]; simp
theorem areBetween_f (l : List Int) (a b : Int) : impl_areBetween.f l a b = some (allB l a b) := by
  unfold impl_areBetween.f allB
  simp only [Option.some.injEq]
  induction l with
  | nil => rfl
  | cons x xs ih => simp only [List.any_cons, List.all_cons, Bool.not_or, Bool.not_not, ih]
theorem areAges_f (l : List Int) : impl_AreAges.f l = some (goodB l) := by
  unfold impl_AreAges.f goodB
  rw [between_f]
  simp only [Option.bind_some, areBetween_f]
  by_cases h : 1 ≤ (l.length : Int) ∧ (l.length : Int) ≤ 8
  · rw [decide_eq_true h]; simp
  · rw [decide_eq_false h]; simp

/-! #### inyears -/
/-! ### ages in other years -/
def inY (l : List Int) (y : Int) : List Int := l.map fun x => wrap64 (x + y)
theorem inY_length (l : List Int) (y : Int) : (inY l y).length = l.length := by simp [inY]
theorem inYears_l (y : Int) (l : List Int) (hb : l.length ≤ 1048576) (d : Nat) : ∀ (i : Nat) (acc : List Int), i + d = l.length → acc.length + d ≤ 1048576 → Ev (fun k => impl_inYears.l0 k y acc l (l.length : Int) (i : Int)) (acc ++ (l.drop i).map (fun x => wrap64 (x + y))) := by
  induction d with
  | zero =>
    intro i acc hi ha
    exact Ev.step (f := fun _ => some acc) (fun k => by simp only [impl_inYears.l0]; rw [if_neg (by omega)]) (Ev.same (Ev.now _) (by rw [List.drop_of_length_le (by omega)]; simp))
  | succ d ih =>
    intro i acc hi ha
    have ew : wrap64 ((i : Int) + 1) = ((i + 1 : Nat) : Int) := by rw [w64 (by omega) (by omega)]; omega
    refine Ev.step (f := fun k => impl_inYears.l0 k y (acc ++ [wrap64 (rd l (i : Int) + y)]) l (l.length : Int) ((i + 1 : Nat) : Int)) (fun k => ?_) (Ev.same (ih (i + 1) _ (by omega) (by simp; omega)) (by rw [drop_rd l i (by omega)]; simp))
    simp only [impl_inYears.l0]; rw [if_pos (by omega), if_pos (by omega), if_pos (by omega), if_pos (by omega), ew]
theorem inYears_f (l : List Int) (y : Int) (hb : l.length ≤ 1048576) : Ev (fun k => impl_inYears.f k l y) (inY l y) := Ev.same (inYears_l y l hb l.length 0 [] (by omega) (by simp; omega)) (by simp [inY])

/-! #### agin -/
/-! ### ages in other years: the reference's -/
theorem agIn_l (y : Int) (l : List Int) (hb : l.length ≤ 1048576) (d : Nat) : ∀ (i : Nat) (acc : List Int), i + d = l.length → acc.length + d ≤ 1048576 → Ev (fun k => spec_agIn.l0 k y acc l (l.length : Int) (i : Int)) (acc ++ (l.drop i).map (fun x => wrap64 (x + y))) := by
  induction d with
  | zero =>
    intro i acc hi ha
    exact Ev.step (f := fun _ => some acc) (fun k => by simp only [spec_agIn.l0]; rw [if_neg (by omega)]) (Ev.same (Ev.now _) (by rw [List.drop_of_length_le (by omega)]; simp))
  | succ d ih =>
    intro i acc hi ha
    have ew : wrap64 ((i : Int) + 1) = ((i + 1 : Nat) : Int) := by rw [w64 (by omega) (by omega)]; omega
    refine Ev.step (f := fun k => spec_agIn.l0 k y (acc ++ [wrap64 (rd l (i : Int) + y)]) l (l.length : Int) ((i + 1 : Nat) : Int)) (fun k => ?_) (Ev.same (ih (i + 1) _ (by omega) (by simp; omega)) (by rw [drop_rd l i (by omega)]; simp))
    simp only [spec_agIn.l0]; rw [if_pos (by omega), if_pos (by omega), if_pos (by omega), if_pos (by omega), ew]
theorem agIn_f (l : List Int) (y : Int) (hb : l.length ≤ 1048576) : Ev (fun k => spec_agIn.f k l y) (inY l y) := Ev.same (agIn_l y l hb l.length 0 [] (by omega) (by simp; omega)) (by simp [inY])

/-! #### range -/
/-! ### fit years -/
theorem minFrom_le (l : List Int) : ∀ m, minFrom l m ≤ m ∧ ∀ x ∈ l, minFrom l m ≤ x := by
  induction l with
  | nil => intro m; simp [minFrom]
  | cons a l ih =>
    intro m
    simp only [minFrom]
    by_cases h : a < m
    · rw [if_pos h]
      obtain ⟨h1, h2⟩ := ih a
      refine ⟨by omega, fun x hx => ?_⟩
      rcases List.mem_cons.mp hx with rfl | hx
      · exact h1
      · exact h2 x hx
    · rw [if_neg h]
      obtain ⟨h1, h2⟩ := ih m
      refine ⟨h1, fun x hx => ?_⟩
      rcases List.mem_cons.mp hx with rfl | hx
      · omega
      · exact h2 x hx
theorem maxFrom_ge (l : List Int) : ∀ m, m ≤ maxFrom l m ∧ ∀ x ∈ l, x ≤ maxFrom l m := by
  induction l with
  | nil => intro m; simp [maxFrom]
  | cons a l ih =>
    intro m
    simp only [maxFrom]
    by_cases h : m < a
    · rw [if_pos h]
      obtain ⟨h1, h2⟩ := ih a
      refine ⟨by omega, fun x hx => ?_⟩
      rcases List.mem_cons.mp hx with rfl | hx
      · exact h1
      · exact h2 x hx
    · rw [if_neg h]
      obtain ⟨h1, h2⟩ := ih m
      refine ⟨h1, fun x hx => ?_⟩
      rcases List.mem_cons.mp hx with rfl | hx
      · omega
      · exact h2 x hx
theorem minFrom_mem (l : List Int) : ∀ m, minFrom l m = m ∨ minFrom l m ∈ l := by
  induction l with
  | nil => intro m; simp [minFrom]
  | cons a l ih =>
    intro m
    simp only [minFrom]
    by_cases h : a < m
    · rw [if_pos h]
      rcases ih a with e | e
      · exact .inr (by rw [e]; simp)
      · exact .inr (List.mem_cons_of_mem _ e)
    · rw [if_neg h]
      rcases ih m with e | e
      · exact .inl e
      · exact .inr (List.mem_cons_of_mem _ e)
theorem maxFrom_mem (l : List Int) : ∀ m, maxFrom l m = m ∨ maxFrom l m ∈ l := by
  induction l with
  | nil => intro m; simp [maxFrom]
  | cons a l ih =>
    intro m
    simp only [maxFrom]
    by_cases h : m < a
    · rw [if_pos h]
      rcases ih a with e | e
      · exact .inr (by rw [e]; simp)
      · exact .inr (List.mem_cons_of_mem _ e)
    · rw [if_neg h]
      rcases ih m with e | e
      · exact .inl e
      · exact .inr (List.mem_cons_of_mem _ e)
def loY (l : List Int) : Int := -(minFrom (l.drop 1) (rd l 0))
def hiY (l : List Int) : Int := 120 - maxFrom (l.drop 1) (rd l 0)
theorem head_drop {l : List Int} (h : 1 ≤ l.length) : l = rd l 0 :: l.drop 1 := by
  have := drop_rd l 0 (by omega)
  simpa using this
theorem min_all {l : List Int} (h : 1 ≤ l.length) {x : Int} (hx : x ∈ l) : minFrom (l.drop 1) (rd l 0) ≤ x := by
  obtain ⟨h1, h2⟩ := minFrom_le (l.drop 1) (rd l 0)
  rw [head_drop h] at hx
  rcases List.mem_cons.mp hx with rfl | hx
  · exact h1
  · exact h2 x hx
theorem max_all {l : List Int} (h : 1 ≤ l.length) {x : Int} (hx : x ∈ l) : x ≤ maxFrom (l.drop 1) (rd l 0) := by
  obtain ⟨h1, h2⟩ := maxFrom_ge (l.drop 1) (rd l 0)
  rw [head_drop h] at hx
  rcases List.mem_cons.mp hx with rfl | hx
  · exact h1
  · exact h2 x hx
theorem min_in {l : List Int} (h : 1 ≤ l.length) : minFrom (l.drop 1) (rd l 0) ∈ l := by
  rcases minFrom_mem (l.drop 1) (rd l 0) with e | e
  · rw [e]; exact rd_mem (by omega) (by omega)
  · exact List.mem_of_mem_drop e
theorem max_in {l : List Int} (h : 1 ≤ l.length) : maxFrom (l.drop 1) (rd l 0) ∈ l := by
  rcases maxFrom_mem (l.drop 1) (rd l 0) with e | e
  · rw [e]; exact rd_mem (by omega) (by omega)
  · exact List.mem_of_mem_drop e
theorem range_bounds {l : List Int} (hg : goodB l = true) : -120 ≤ loY l ∧ loY l ≤ 0 ∧ 0 ≤ hiY l ∧ hiY l ≤ 120 := by
  have h1 := good_mem hg (min_in (good_len hg).1)
  have h2 := good_mem hg (max_in (good_len hg).1)
  unfold loY hiY
  omega
/-- Years are fit just if all are of an age then. -/
theorem fit_iff {l : List Int} (h : 1 ≤ l.length) (y : Int) : (loY l ≤ y ∧ y ≤ hiY l) ↔ ∀ x ∈ l, 0 ≤ x + y ∧ x + y ≤ 120 := by
  constructor
  · intro hy x hx
    have h1 := min_all h hx
    have h2 := max_all h hx
    unfold loY hiY at hy
    omega
  · intro ha
    have h1 := ha _ (min_in h)
    have h2 := ha _ (max_in h)
    unfold loY hiY
    omega
theorem least_f (m x : Int) : spec_l1Least.f m x = some (if x < m then x else m) := by
  unfold spec_l1Least.f
  by_cases h : m < x
  · rw [if_pos h, if_neg (by omega)]
  · rw [if_neg h]
    by_cases h2 : x < m
    · rw [if_pos h2]
    · rw [if_neg h2]; congr 1; omega
theorem most_f (m x : Int) : spec_l1Most.f m x = some (if m < x then x else m) := by
  unfold spec_l1Most.f
  by_cases h : m > x
  · rw [if_pos h, if_neg (by omega)]
  · rw [if_neg h]
    by_cases h2 : m < x
    · rw [if_pos h2]
    · rw [if_neg h2]; congr 1; omega
theorem agRange_l (l : List Int) (hb : l.length ≤ 1048576) (d : Nat) : ∀ (i : Nat) (m n : Int), i + d = l.length → Ev (fun k => spec_agRange.l0 k m n l (l.length : Int) (i : Int)) (wrap64 (-(minFrom (l.drop i) m)), wrap64 (120 - maxFrom (l.drop i) n)) := by
  induction d with
  | zero =>
    intro i m n hi
    exact Ev.step (f := fun _ => some (wrap64 (-m), wrap64 (120 - n))) (fun k => by simp only [spec_agRange.l0]; rw [if_neg (by omega)]) (Ev.same (Ev.now _) (by rw [List.drop_of_length_le (by omega)]; rfl))
  | succ d ih =>
    intro i m n hi
    have ew : wrap64 ((i : Int) + 1) = ((i + 1 : Nat) : Int) := by rw [w64 (by omega) (by omega)]; omega
    refine Ev.step (f := fun k => spec_agRange.l0 k (if rd l (i : Int) < m then rd l (i : Int) else m) (if n < rd l (i : Int) then rd l (i : Int) else n) l (l.length : Int) ((i + 1 : Nat) : Int)) (fun k => ?_) (Ev.same (ih (i + 1) _ _ (by omega)) (by rw [drop_rd l i (by omega)]; rfl))
    simp only [spec_agRange.l0]; rw [if_pos (by omega), if_pos (by omega), if_pos (by omega), ew, least_f, most_f]; rfl
theorem agRange_f {l : List Int} (hg : goodB l = true) : Ev (fun k => spec_agRange.f k l) (loY l, hiY l) := by
  have hl := good_len hg
  have hb := range_bounds hg
  refine Ev.congr (fun k => by unfold spec_agRange.f; rfl) (Ev.if_pos (by omega) (Ev.same (agRange_l l (by omega) l.length 0 _ _ (by omega)) ?_))
  have e1 : minFrom (l.drop 0) (rd l 0) = minFrom (l.drop 1) (rd l 0) := by
    have := drop_rd l 0 (by omega)
    simp only [Int.ofNat_zero, Nat.zero_add] at this
    rw [this]; simp [minFrom]
  have e2 : maxFrom (l.drop 0) (rd l 0) = maxFrom (l.drop 1) (rd l 0) := by
    have := drop_rd l 0 (by omega)
    simp only [Int.ofNat_zero, Nat.zero_add] at this
    rw [this]; simp [maxFrom]
  rw [e1, e2]
  unfold loY hiY at hb ⊢
  rw [w64 (by omega) (by omega), w64 (by omega) (by omega)]
theorem fitYears_f {l : List Int} (hg : goodB l = true) : impl_fitYears.f l = some (loY l, hiY l) := by
  have hl := good_len hg
  have hb := range_bounds hg
  unfold impl_fitYears.f slices_Min_int_int.f slices_Max_int_int.f
  rw [if_pos (by omega), if_pos (by omega)]
  simp only [Option.bind_some]
  unfold loY hiY at hb ⊢
  rw [w64 (by omega) (by omega), w64 (by omega) (by omega)]

/-! #### fit -/
def fitB (l : List Int) (y : Int) : Bool := goodB l && decide (loY l ≤ y ∧ y ≤ hiY l)
theorem fit_good {l : List Int} {y : Int} (h : fitB l y = true) : goodB l = true ∧ loY l ≤ y ∧ y ≤ hiY l := by
  unfold fitB at h
  simpa using h
theorem agFit_f (l : List Int) (y : Int) : Ev (fun k => spec_agFit.f k l y) (fitB l y) := by
  refine Ev.congr (fun k => by unfold spec_agFit.f; rfl) (Ev.bind (agGood_f l) ?_)
  cases hg : goodB l with
  | true =>
    refine Ev.if_pos rfl (Ev.bind (agRange_f hg) (Ev.got (l1In_f y _ _) (Ev.same (Ev.now _) ?_)))
    unfold fitB; rw [hg]; rfl
  | false => exact Ev.if_neg (by simp) (Ev.same (Ev.now _) (by unfold fitB; rw [hg]; rfl))
theorem isFit_f {l : List Int} (hg : goodB l = true) (y : Int) : impl_isFit.f l y = some (fitB l y) := by
  unfold impl_isFit.f
  rw [fitYears_f hg]
  simp only [Option.bind_some, between_f]
  unfold fitB; rw [hg]; rfl

/-! #### aiof -/
/-! ### ages in a year, as the program tells them -/
def aiOf (l : List Int) (y : Int) : List Int × Bool := if fitB l y = true then (inY l y, true) else ([], false)
theorem implAI_f (l : List Int) (y : Int) : Ev (fun k => impl_AgesIn.f k l y) (aiOf l y) := by
  refine Ev.congr (fun k => by unfold impl_AgesIn.f; rfl) (Ev.got (areAges_f l) ?_)
  cases hg : goodB l with
  | true =>
    have := good_len hg
    refine Ev.if_pos rfl (Ev.got (isFit_f hg y) ?_)
    cases hf : fitB l y with
    | true => exact Ev.if_pos rfl (Ev.bind (inYears_f l y (by omega)) (Ev.same (Ev.now _) (by unfold aiOf; rw [hf]; rfl)))
    | false => exact Ev.if_neg (by simp) (Ev.same (Ev.now _) (by unfold aiOf; rw [hf]; rfl))
  | false =>
    have hf : fitB l y = false := by unfold fitB; rw [hg]; rfl
    exact Ev.if_neg (by simp) (Ev.same (Ev.now _) (by unfold aiOf; rw [hf]; rfl))
theorem aiOf_length (l : List Int) (y : Int) : (aiOf l y).1.length ≤ 8 := by
  unfold aiOf
  split
  · rename_i h; have := good_len (fit_good h).1; simp [inY_length]; omega
  · simp

/-! #### agesin -/
theorem specAI_f (l : List Int) (y : Int) : Ev (fun k => spec_AgesIn.f k l y) (aiOf l y) := by
  refine Ev.congr (fun k => by unfold spec_AgesIn.f; rfl) (Ev.bind (agFit_f l y) ?_)
  cases hf : fitB l y with
  | true =>
    have := good_len (fit_good hf).1
    exact Ev.if_pos rfl (Ev.bind (agIn_f l y (by omega)) (Ev.same (Ev.now _) (by unfold aiOf; rw [hf]; rfl)))
  | false => exact Ev.if_neg (by simp) (Ev.same (Ev.now _) (by unfold aiOf; rw [hf]; rfl))

/-! #### agesofbirths -/
def abL (l : List Int) : List Int × Bool := if goodB l = true then (l, true) else ([], false)
theorem specAB_l (y : Int) (l : List Int) (hb : l.length ≤ 1048576) (d : Nat) : ∀ (i : Nat) (acc : List Int), i + d = l.length → acc.length + d ≤ 1048576 → Ev (fun k => spec_AgesOfBirths.l0 k y acc l (l.length : Int) (i : Int)) (abL (acc ++ (l.drop i).map (fun x => wrap64 (y - x)))) := by
  induction d with
  | zero =>
    intro i acc hi ha
    refine Ev.step (fun k => by simp only [spec_AgesOfBirths.l0]; rw [if_neg (by omega)]) (Ev.bind (agGood_f acc) ?_)
    rw [List.drop_of_length_le (by omega)]
    simp only [List.map_nil, List.append_nil]
    cases hg : goodB acc with
    | true => exact Ev.if_pos rfl (Ev.same (Ev.now _) (by unfold abL; rw [hg]; rfl))
    | false => exact Ev.if_neg (by simp) (Ev.same (Ev.now _) (by unfold abL; rw [hg]; rfl))
  | succ d ih =>
    intro i acc hi ha
    have ew : wrap64 ((i : Int) + 1) = ((i + 1 : Nat) : Int) := by rw [w64 (by omega) (by omega)]; omega
    refine Ev.step (f := fun k => spec_AgesOfBirths.l0 k y (acc ++ [wrap64 (y - rd l (i : Int))]) l (l.length : Int) ((i + 1 : Nat) : Int)) (fun k => ?_) (Ev.same (ih (i + 1) _ (by omega) (by simp; omega)) (by rw [drop_rd l i (by omega)]; simp))
    simp only [spec_AgesOfBirths.l0]; rw [if_pos (by omega), if_pos (by omega), if_pos (by omega), if_pos (by omega), ew]
theorem implAB_l (y : Int) (l : List Int) (hb : l.length ≤ 1048576) (d : Nat) : ∀ (i : Nat) (acc : List Int), i + d = l.length → acc.length + d ≤ 1048576 → Ev (fun k => impl_AgesOfBirths.l0 k y acc l (l.length : Int) (i : Int)) (abL (acc ++ (l.drop i).map (fun x => wrap64 (y - x)))) := by
  induction d with
  | zero =>
    intro i acc hi ha
    refine Ev.step (fun k => by simp only [impl_AgesOfBirths.l0]; rw [if_neg (by omega)]) (Ev.got (areAges_f acc) ?_)
    rw [List.drop_of_length_le (by omega)]
    simp only [List.map_nil, List.append_nil]
    cases hg : goodB acc with
    | true => exact Ev.if_pos rfl (Ev.same (Ev.now _) (by unfold abL; rw [hg]; rfl))
    | false => exact Ev.if_neg (by simp) (Ev.same (Ev.now _) (by unfold abL; rw [hg]; rfl))
  | succ d ih =>
    intro i acc hi ha
    have ew : wrap64 ((i : Int) + 1) = ((i + 1 : Nat) : Int) := by rw [w64 (by omega) (by omega)]; omega
    refine Ev.step (f := fun k => impl_AgesOfBirths.l0 k y (acc ++ [wrap64 (y - rd l (i : Int))]) l (l.length : Int) ((i + 1 : Nat) : Int)) (fun k => ?_) (Ev.same (ih (i + 1) _ (by omega) (by simp; omega)) (by rw [drop_rd l i (by omega)]; simp))
    simp only [impl_AgesOfBirths.l0]; rw [if_pos (by omega), if_pos (by omega), if_pos (by omega), if_pos (by omega), ew]
def abOk (l : List Int) (y : Int) : Prop := (1 ≤ (l.length : Int) ∧ (l.length : Int) ≤ 8) ∧ allB l 0 3000 = true ∧ (0 ≤ y ∧ y ≤ 3000)
instance (l : List Int) (y : Int) : Decidable (abOk l y) := inferInstanceAs (Decidable (_ ∧ _ ∧ _))
def abOf (l : List Int) (y : Int) : List Int × Bool := if abOk l y then abL (l.map (fun x => wrap64 (y - x))) else ([], false)
theorem abOf_length (l : List Int) (y : Int) : (abOf l y).1.length ≤ 8 := by
  unfold abOf abL
  split
  · split
    · rename_i h; have := good_len h; simpa using this.2
    · simp
  · simp
theorem specAB_f (l : List Int) (y : Int) : Ev (fun k => spec_AgesOfBirths.f k l y) (abOf l y) := by
  have bad : ∀ (h : ¬ abOk l y) (c : Bool) (hc : c = true), Ev (fun k => spec_AgesOfBirths.j0 k l y c) (abOf l y) := by
    intro h c hc
    subst hc
    exact Ev.step (f := fun _ => some ([], false)) (fun k => by simp only [spec_AgesOfBirths.j0, if_true]) (Ev.same (Ev.now _) (by unfold abOf; rw [if_neg h]))
  refine Ev.congr (fun k => by unfold spec_AgesOfBirths.f; rfl) (Ev.got (l1In_f (l.length : Int) 1 8) ?_)
  by_cases h1 : 1 ≤ (l.length : Int) ∧ (l.length : Int) ≤ 8
  · refine Ev.if_pos (by simpa using h1) (Ev.bind (l1All_f l 0 3000 (by omega)) ?_)
    cases h2 : allB l 0 3000 with
    | true =>
      refine Ev.if_pos rfl (Ev.got (l1In_f y 0 3000) ?_)
      by_cases h3 : 0 ≤ y ∧ y ≤ 3000
      · refine Ev.step (f := fun k => spec_AgesOfBirths.l0 k y [] l (l.length : Int) 0) (fun k => ?_) (Ev.same (specAB_l y l (by omega) l.length 0 [] (by omega) (by simp; omega)) (by unfold abOf; rw [if_pos ⟨h1, h2, h3⟩]; simp))
        simp only [spec_AgesOfBirths.j0]; rw [if_neg (by rw [decide_eq_true h3]; simp)]
      · exact bad (fun h => h3 h.2.2) _ (by rw [decide_eq_false h3]; rfl)
    | false => exact Ev.if_neg (by simp) (bad (fun h => by have q := h.2.1; rw [h2] at q; simp at q) _ rfl)
  · exact Ev.if_neg (by simpa using h1) (bad (fun h => h1 h.1) _ rfl)
theorem implAB_f (l : List Int) (y : Int) : Ev (fun k => impl_AgesOfBirths.f k l y) (abOf l y) := by
  have bad : ∀ (h : ¬ abOk l y) (c : Bool) (hc : c = true), Ev (fun k => impl_AgesOfBirths.j0 k l y c) (abOf l y) := by
    intro h c hc
    subst hc
    exact Ev.step (f := fun _ => some ([], false)) (fun k => by simp only [impl_AgesOfBirths.j0, if_true]) (Ev.same (Ev.now _) (by unfold abOf; rw [if_neg h]))
  refine Ev.congr (fun k => by unfold impl_AgesOfBirths.f; rfl) (Ev.got (between_f (l.length : Int) 1 8) ?_)
  by_cases h1 : 1 ≤ (l.length : Int) ∧ (l.length : Int) ≤ 8
  · refine Ev.if_pos (by simpa using h1) (Ev.got (areBetween_f l 0 3000) ?_)
    cases h2 : allB l 0 3000 with
    | true =>
      refine Ev.if_pos rfl (Ev.got (between_f y 0 3000) ?_)
      by_cases h3 : 0 ≤ y ∧ y ≤ 3000
      · refine Ev.step (f := fun k => impl_AgesOfBirths.l0 k y [] l (l.length : Int) 0) (fun k => ?_) (Ev.same (implAB_l y l (by omega) l.length 0 [] (by omega) (by simp; omega)) (by unfold abOf; rw [if_pos ⟨h1, h2, h3⟩]; simp))
        simp only [impl_AgesOfBirths.j0]; rw [if_neg (by rw [decide_eq_true h3]; simp)]
      · exact bad (fun h => h3 h.2.2) _ (by rw [decide_eq_false h3]; rfl)
    | false => exact Ev.if_neg (by simp) (bad (fun h => by have q := h.2.1; rw [h2] at q; simp at q) _ rfl)
  · exact Ev.if_neg (by simpa using h1) (bad (fun h => h1 h.1) _ rfl)

/-! #### big -/
theorem big_f (l0 l1 : List Int) (h0 : (l0.length : Int) ≤ 140737488351232) (h1 : (l1.length : Int) ≤ 140737488351232) : ∃ b, laws_big.f l0 l1 = some b := by
  unfold laws_big.f
  by_cases h : (l0.length : Int) > 1048576
  · exact ⟨true, if_pos h⟩
  · exact ⟨_, if_neg h⟩

/-! #### minus -/
/-! ### a year less each number -/
theorem specBY_l (y : Int) (l : List Int) (hb : l.length ≤ 1048576) (d : Nat) : ∀ (i : Nat) (acc : List Int), i + d = l.length → acc.length + d ≤ 1048576 → Ev (fun k => spec_BirthYears.l0 k y acc l (l.length : Int) (i : Int)) ((acc ++ (l.drop i).map (fun x => wrap64 (y - x))), true) := by
  induction d with
  | zero =>
    intro i acc hi ha
    exact Ev.step (f := fun _ => some (acc, true)) (fun k => by simp only [spec_BirthYears.l0]; rw [if_neg (by omega)]) (Ev.same (Ev.now _) (by rw [List.drop_of_length_le (by omega)]; simp))
  | succ d ih =>
    intro i acc hi ha
    have ew : wrap64 ((i : Int) + 1) = ((i + 1 : Nat) : Int) := by rw [w64 (by omega) (by omega)]; omega
    refine Ev.step (f := fun k => spec_BirthYears.l0 k y (acc ++ [wrap64 (y - rd l (i : Int))]) l (l.length : Int) ((i + 1 : Nat) : Int)) (fun k => ?_) (Ev.same (ih (i + 1) _ (by omega) (by simp; omega)) (by rw [drop_rd l i (by omega)]; simp))
    simp only [spec_BirthYears.l0]; rw [if_pos (by omega), if_pos (by omega), if_pos (by omega), if_pos (by omega), ew]
theorem implBY_l (y : Int) (l : List Int) (hb : l.length ≤ 1048576) (d : Nat) : ∀ (i : Nat) (acc : List Int), i + d = l.length → acc.length + d ≤ 1048576 → Ev (fun k => impl_BirthYears.l0 k y acc l (l.length : Int) (i : Int)) ((acc ++ (l.drop i).map (fun x => wrap64 (y - x))), true) := by
  induction d with
  | zero =>
    intro i acc hi ha
    exact Ev.step (f := fun _ => some (acc, true)) (fun k => by simp only [impl_BirthYears.l0]; rw [if_neg (by omega)]) (Ev.same (Ev.now _) (by rw [List.drop_of_length_le (by omega)]; simp))
  | succ d ih =>
    intro i acc hi ha
    have ew : wrap64 ((i : Int) + 1) = ((i + 1 : Nat) : Int) := by rw [w64 (by omega) (by omega)]; omega
    refine Ev.step (f := fun k => impl_BirthYears.l0 k y (acc ++ [wrap64 (y - rd l (i : Int))]) l (l.length : Int) ((i + 1 : Nat) : Int)) (fun k => ?_) (Ev.same (ih (i + 1) _ (by omega) (by simp; omega)) (by rw [drop_rd l i (by omega)]; simp))
    simp only [impl_BirthYears.l0]; rw [if_pos (by omega), if_pos (by omega), if_pos (by omega), if_pos (by omega), ew]

/-! #### births -/
/-! ### births and ages -/
theorem maplen (l : List Int) (f : Int → Int) (h : l.length ≤ 1048576) : (l.map f).length ≤ 1048576 := by simpa using h
def byOf (l : List Int) (y : Int) : List Int × Bool := if goodB l = true ∧ 120 ≤ y ∧ y ≤ 3000 then (l.map (fun x => wrap64 (y - x)), true) else ([], false)
theorem byOf_length (l : List Int) (y : Int) : (byOf l y).1.length ≤ 8 := by
  unfold byOf
  split
  · rename_i h; have := good_len h.1; simp; omega
  · simp
theorem specBY_f (l : List Int) (y : Int) : Ev (fun k => spec_BirthYears.f k l y) (byOf l y) := by
  refine Ev.congr (fun k => by unfold spec_BirthYears.f; rfl) (Ev.bind (agGood_f l) ?_)
  cases hg : goodB l with
  | true =>
    have := good_len hg
    refine Ev.if_pos rfl (Ev.got (l1In_f y 120 3000) ?_)
    by_cases hy : 120 ≤ y ∧ y ≤ 3000
    · refine Ev.step (f := fun k => spec_BirthYears.l0 k y [] l (l.length : Int) 0) (fun k => ?_) (Ev.same (specBY_l y l (by omega) l.length 0 [] (by omega) (by simp; omega)) (by unfold byOf; rw [if_pos ⟨hg, hy⟩]; simp))
      simp only [spec_BirthYears.j0]; rw [if_neg (by rw [decide_eq_true hy]; simp)]
    · refine Ev.step (f := fun _ => some ([], false)) (fun k => ?_) (Ev.same (Ev.now _) (by unfold byOf; rw [if_neg (fun h => hy h.2)]))
      simp only [spec_BirthYears.j0]; rw [if_pos (by rw [decide_eq_false hy]; rfl)]
  | false =>
    refine Ev.if_neg (by simp) (Ev.step (f := fun _ => some ([], false)) (fun k => by simp only [spec_BirthYears.j0, if_true]) (Ev.same (Ev.now _) ?_))
    unfold byOf; rw [if_neg (fun h => by rw [hg] at h; simp at h)]
theorem implBY_f (l : List Int) (y : Int) : Ev (fun k => impl_BirthYears.f k l y) (byOf l y) := by
  refine Ev.congr (fun k => by unfold impl_BirthYears.f; rfl) (Ev.got (areAges_f l) ?_)
  cases hg : goodB l with
  | true =>
    have := good_len hg
    refine Ev.if_pos rfl (Ev.got (between_f y 120 3000) ?_)
    by_cases hy : 120 ≤ y ∧ y ≤ 3000
    · refine Ev.step (f := fun k => impl_BirthYears.l0 k y [] l (l.length : Int) 0) (fun k => ?_) (Ev.same (implBY_l y l (by omega) l.length 0 [] (by omega) (by simp; omega)) (by unfold byOf; rw [if_pos ⟨hg, hy⟩]; simp))
      simp only [impl_BirthYears.j0]; rw [if_neg (by rw [decide_eq_true hy]; simp)]
    · refine Ev.step (f := fun _ => some ([], false)) (fun k => ?_) (Ev.same (Ev.now _) (by unfold byOf; rw [if_neg (fun h => hy h.2)]))
      simp only [impl_BirthYears.j0]; rw [if_pos (by rw [decide_eq_false hy]; rfl)]
  | false =>
    refine Ev.if_neg (by simp) (Ev.step (f := fun _ => some ([], false)) (fun k => by simp only [impl_BirthYears.j0, if_true]) (Ev.same (Ev.now _) ?_))
    unfold byOf; rw [if_neg (fun h => by rw [hg] at h; simp at h)]

/-! #### draws -/
/-! ### what is drawn: that it is drawn, and how long it may be -/
def Byt (s : List Int) : Prop := ∀ x ∈ s, 0 ≤ x ∧ x ≤ 255
theorem byt_of {s : List Int} (h : ∀ x ∈ s, (Lit.int .u8 x).wf = true) : Byt s := fun x hx => by
  have h2 := h x hx
  simp [Lit.wf] at h2
  have h3 : (0 : Int) ≤ x ∧ x ≤ 255 := by simpa [IntKind.min, IntKind.max, IntKind.bits, IntKind.signed] using h2
  exact h3
theorem and255 (y : Int) : 0 ≤ Go.bits .and .u64 (IntKind.u64.wrap y / 1099511627776) 255 ∧ Go.bits .and .u64 (IntKind.u64.wrap y / 1099511627776) 255 ≤ 255 := by
  have hw := IntKind.wrap_u64 y
  have hx0 : 0 ≤ IntKind.u64.wrap y / 1099511627776 := by omega
  have hx1 : IntKind.u64.wrap y / 1099511627776 < 2 ^ 64 := by omega
  have h := bits_mask .u64 64 (by decide) (fun n h0 h1 => by have := IntKind.wrap_u64 n; omega) 8 (by decide) _ hx0 hx1
  have h2 : Go.bits .and .u64 (IntKind.u64.wrap y / 1099511627776) 255 = IntKind.u64.wrap y / 1099511627776 % 256 := h
  rw [h2]
  omega
theorem next_f {s : List Int} (hs : Byt s) {a : Int} (u : Int) (h0 : 0 ≤ a) (h1 : a ≤ 4611686018427387904) : ∃ r u', spec_l1Cur_next.f s a u = some (r, a + 1, u') ∧ 0 ≤ r ∧ r ≤ 255 := by
  have ew : wrap64 (a + 1) = a + 1 := w64 (by omega) (by omega)
  unfold spec_l1Cur_next.f
  rw [ew]
  by_cases h : a < (s.length : Int)
  · rw [if_pos h, if_pos h0, if_pos (show a + 1 ≤ (s.length : Int) by omega)]
    have hb := hs _ (rd_mem h0 h)
    exact ⟨_, _, rfl, by rw [w64 (by omega) (by omega)]; exact hb.1, by rw [w64 (by omega) (by omega)]; exact hb.2⟩
  · rw [if_neg h, if_neg (show ¬ a + 1 ≤ (s.length : Int) by omega)]
    have hb := and255 (IntKind.u64.wrap (IntKind.u64.wrap (u * 6364136223846793005) + 0) + 1442695040888963407)
    exact ⟨_, _, rfl, by rw [w64 (by omega) (by omega)]; exact hb.1, by rw [w64 (by omega) (by omega)]; exact hb.2⟩
theorem tmod_lt {x n : Int} (h0 : 0 ≤ x) (hn : 0 < n) : 0 ≤ Int.tmod x n ∧ Int.tmod x n < n := by
  rw [Int.tmod_eq_emod_of_nonneg h0]
  exact ⟨Int.emod_nonneg x (by omega), Int.emod_lt_of_pos x hn⟩
theorem pick_f {s : List Int} (hs : Byt s) {a : Int} (u n : Int) (h0 : 0 ≤ a) (h1 : a ≤ 1000000000) : ∃ r a' u', spec_l1Cur_pick.f s a u n = some (r, a', u') ∧ 0 ≤ r ∧ (r < n ∨ r = 0) ∧ a ≤ a' ∧ a' ≤ a + 2 := by
  unfold spec_l1Cur_pick.f
  by_cases hn : n ≤ 1
  · rw [if_pos hn]
    exact ⟨0, a, u, rfl, by omega, .inr rfl, by omega, by omega⟩
  · rw [if_neg hn]
    obtain ⟨r, u1, e1, r0, r1⟩ := next_f hs u h0 (by omega)
    rw [e1]
    simp only [Option.bind_some]
    by_cases hb : n > 200
    · rw [if_pos hb]
      obtain ⟨q, u2, e2, q0, q1⟩ := next_f hs u1 (show 0 ≤ a + 1 by omega) (by omega)
      rw [e2]
      simp only [Option.bind_some]
      rw [if_neg (show ¬ n = 0 by omega), w64 (show -9223372036854775808 ≤ r * 256 by omega) (by omega), w64 (by omega) (by omega)]
      have ht := tmod_lt (show 0 ≤ r * 256 + q by omega) (show 0 < n by omega)
      exact ⟨_, _, _, rfl, ht.1, .inl ht.2, by omega, by omega⟩
    · rw [if_neg hb, if_neg (show ¬ n = 0 by omega)]
      have ht := tmod_lt r0 (show 0 < n by omega)
      exact ⟨_, _, _, rfl, ht.1, .inl ht.2, by omega, by omega⟩
theorem among_f {s : List Int} (hs : Byt s) {a : Int} (u : Int) (l : List Int) (hl : 0 < l.length) (h0 : 0 ≤ a) (h1 : a ≤ 1000000000) : ∃ r a' u', spec_l1Cur_among.f s a u l = some (r, a', u') ∧ r ∈ l ∧ a ≤ a' ∧ a' ≤ a + 2 := by
  unfold spec_l1Cur_among.f
  obtain ⟨r, a', u', e, r0, r1, b0, b1⟩ := pick_f hs u (l.length : Int) h0 h1
  rw [e]
  simp only [Option.bind_some]
  have hr : r < (l.length : Int) := by omega
  rw [if_pos r0, if_pos hr]
  exact ⟨_, _, _, rfl, rd_mem r0 hr, b0, b1⟩
theorem sureAges_l {s : List Int} (hs : Byt s) (d : Nat) : ∀ (acc : List Int) (a u : Int), d ≤ 10 → acc.length + d ≤ 100 → 0 ≤ a → a + 2 * d ≤ 1000000 → ∃ l a' u', Ev (fun k => spec_l1Cur_sureAges.l0 k acc (d : Int) s a u) (l, a', u') ∧ l.length = acc.length + d ∧ a ≤ a' ∧ a' ≤ a + 2 * d := by
  induction d with
  | zero =>
    intro acc a u _ _ h0 h1
    exact ⟨acc, a, u, Ev.step (f := fun _ => some (acc, a, u)) (fun k => by simp only [spec_l1Cur_sureAges.l0]; rw [if_neg (by omega)]) (Ev.now _), rfl, by omega, by omega⟩
  | succ d ih =>
    intro acc a u hd ha h0 h1
    obtain ⟨r, a1, u1, e, _, b0, b1⟩ := among_f hs u [0, 1, 3, 5, 9, 12, 17, 25, 33, 40, 64, 90] (by decide) h0 (by omega)
    obtain ⟨l, a2, u2, h, hl, c0, c1⟩ := ih (acc ++ [r]) a1 u1 (by omega) (by simp; omega) (by omega) (by push_cast at h1; omega)
    have ew : wrap64 (((d + 1 : Nat) : Int) - 1) = (d : Int) := by rw [w64 (by omega) (by omega)]; omega
    refine ⟨l, a2, u2, Ev.step (fun k => by simp only [spec_l1Cur_sureAges.l0]; rw [if_pos (show ((d + 1 : Nat) : Int) > 0 by omega), ew]) (Ev.got e (Ev.if_pos (show acc.length < 17592186044416 by omega) h)), ?_, by omega, by omega⟩
    rw [hl]; simp; omega
theorem sureAges_f {s : List Int} (hs : Byt s) {a : Int} (u : Int) (h0 : 0 ≤ a) (h1 : a ≤ 1000) : ∃ l a' u', Ev (fun k => spec_l1Cur_sureAges.f k s a u) (l, a', u') ∧ 1 ≤ l.length ∧ l.length ≤ 4 ∧ a ≤ a' ∧ a' ≤ a + 12 := by
  obtain ⟨r, a1, u1, e, r0, r1, b0, b1⟩ := pick_f hs u 4 h0 (by omega)
  obtain ⟨n, rfl⟩ := Int.eq_ofNat_of_zero_le r0
  obtain ⟨l, a2, u2, h, hl, c0, c1⟩ := sureAges_l hs (n + 1) [] a1 u1 (by omega) (by simp; omega) (by omega) (by omega)
  have ew : wrap64 (1 + (n : Int)) = ((n + 1 : Nat) : Int) := by rw [w64 (by omega) (by omega)]; omega
  refine ⟨l, a2, u2, Ev.congr (fun k => by unfold spec_l1Cur_sureAges.f; rfl) (Ev.got e (by simp only [ew]; exact h)), ?_, ?_, by omega, by omega⟩ <;> · simp at hl; omega
theorem ages_l {s : List Int} (hs : Byt s) (d : Nat) : ∀ (acc : List Int) (a u : Int), acc.length + d = 10 → 0 ≤ a → a + 4 * d ≤ 1000000 → ∃ l a' u', Ev (fun k => spec_l1Cur_ages.l0 k acc s a u) (l, a', u') ∧ l.length ≤ 10 ∧ a ≤ a' ∧ a' ≤ a + 4 * d + 2 := by
  induction d with
  | zero =>
    intro acc a u ha h0 h1
    obtain ⟨r, a1, u1, e, r0, r1, b0, b1⟩ := pick_f hs u 2 h0 (by omega)
    have ew : wrap64 (8 + r) = 8 + r := w64 (by omega) (by omega)
    exact ⟨acc, a1, u1, Ev.step (fun k => by simp only [spec_l1Cur_ages.l0]; rfl) (Ev.got e (Ev.if_neg (show ¬ (acc.length : Int) < wrap64 (8 + r) by rw [ew]; omega) (Ev.now _))), by omega, by omega, by omega⟩
  | succ d ih =>
    intro acc a u ha h0 h1
    obtain ⟨r, a1, u1, e, r0, r1, b0, b1⟩ := pick_f hs u 2 h0 (by omega)
    have ew : wrap64 (8 + r) = 8 + r := w64 (by omega) (by omega)
    by_cases hc : (acc.length : Int) < 8 + r
    · obtain ⟨q, a2, u2, e2, q0, q1, c0, c1⟩ := pick_f hs u1 50 (show 0 ≤ a1 by omega) (by omega)
      obtain ⟨l, a3, u3, h, hl, d0, d1⟩ := ih (acc ++ [q]) a2 u2 (by simp; omega) (by omega) (by omega)
      exact ⟨l, a3, u3, Ev.step (fun k => by simp only [spec_l1Cur_ages.l0]; rfl) (Ev.got e (Ev.if_pos (show (acc.length : Int) < wrap64 (8 + r) by rw [ew]; omega) (Ev.got e2 (Ev.if_pos (show acc.length < 17592186044416 by omega) h)))), hl, by omega, by omega⟩
    · exact ⟨acc, a1, u1, Ev.step (fun k => by simp only [spec_l1Cur_ages.l0]; rfl) (Ev.got e (Ev.if_neg (show ¬ (acc.length : Int) < wrap64 (8 + r) by rw [ew]; omega) (Ev.now _))), by omega, by omega, by omega⟩
theorem ages_f {s : List Int} (hs : Byt s) {a : Int} (u : Int) (h0 : 0 ≤ a) (h1 : a ≤ 500) : ∃ l a' u', Ev (fun k => spec_l1Cur_ages.f k s a u) (l, a', u') ∧ l.length ≤ 10 ∧ a ≤ a' ∧ a' ≤ a + 100 := by
  obtain ⟨l1, a1, u1, e1, l1a, l1b, b0, b1⟩ := sureAges_f hs u h0 (by omega)
  obtain ⟨r, a2, u2, e2, r0, r1, c0, c1⟩ := pick_f hs u1 14 (show 0 ≤ a1 by omega) (by omega)
  have go : ∀ (l : List Int) (a' u' : Int), Ev (fun k => if r = 0 then (some (([] : List Int), a2, u2)) else (if r = 1 then ((spec_l1Cur_among.f s a2 u2 (([(-1), 120, 121, 4611686018427387904] : List Int))).bind fun bt135 => (if 0 < (l1.length : Int) then (some ((l1.set (0 : Int).toNat bt135.1), bt135.2.1, bt135.2.2)) else (none))) else (if r = 2 then (spec_l1Cur_ages.l0 k l1 s a2 u2) else (some (l1, a2, u2))))) (l, a', u') → Ev (fun k => spec_l1Cur_ages.f k s a u) (l, a', u') :=
    fun l a' u' h => Ev.congr (fun k => by unfold spec_l1Cur_ages.f; rfl) (Ev.bind e1 (Ev.got e2 h))
  by_cases k0 : r = 0
  · exact ⟨[], a2, u2, go _ _ _ (Ev.if_pos k0 (Ev.now _)), by simp, by omega, by omega⟩
  · by_cases k1 : r = 1
    · obtain ⟨q, a3, u3, e3, _, d0, d1⟩ := among_f hs u2 [(-1), 120, 121, 4611686018427387904] (by decide) (show 0 ≤ a2 by omega) (by omega)
      exact ⟨l1.set (0 : Int).toNat q, a3, u3, go _ _ _ (Ev.if_neg k0 (Ev.if_pos k1 (Ev.got e3 (Ev.if_pos (by omega) (Ev.now _))))), by simp; omega, by omega, by omega⟩
    · by_cases k2 : r = 2
      · obtain ⟨l, a3, u3, h, hl, d0, d1⟩ := ages_l hs (10 - l1.length) l1 a2 u2 (by omega) (by omega) (by omega)
        exact ⟨l, a3, u3, go _ _ _ (Ev.if_neg k0 (Ev.if_neg k1 (Ev.if_pos k2 h))), hl, by omega, by omega⟩
      · exact ⟨l1, a2, u2, go _ _ _ (Ev.if_neg k0 (Ev.if_neg k1 (Ev.if_neg k2 (Ev.now _)))), by omega, by omega, by omega⟩

/-! #### gcd -/
/-! ### fractions in lowest terms -/
theorem gcd_step (m n : Nat) : Nat.gcd m n = Nat.gcd n (m % n) := by rw [Nat.gcd_comm, Nat.gcd_rec, Nat.gcd_comm]
theorem tmod_nat (m n : Nat) : Int.tmod (m : Int) (n : Int) = ((m % n : Nat) : Int) := by
  rw [Int.tmod_eq_emod_of_nonneg (by omega)]; rfl
theorem divisor_l (n : Nat) : ∀ (m : Nat), m ≤ 1000000 → n ≤ 1000000 → Ev (fun k => impl_divisor.l0 k (m : Int) (n : Int)) ((Nat.gcd m n : Nat) : Int) := by
  induction n using Nat.strongRecOn with
  | _ n ih =>
    intro m hm hn
    by_cases h0 : n = 0
    · subst h0
      refine Ev.step (f := fun _ => some (m : Int)) (fun k => ?_) (Ev.same (Ev.now _) (by simp))
      simp only [impl_divisor.l0]; rw [if_pos (by simp), w64 (x := -(m : Int)) (by omega) (by omega)]
      unfold mx; congr 1; split <;> omega
    · refine Ev.step (f := fun k => impl_divisor.l0 k (n : Int) ((m % n : Nat) : Int)) (fun k => ?_) (Ev.same (ih (m % n) (Nat.mod_lt _ (by omega)) n (by omega) (by have := Nat.mod_lt m (show 0 < n by omega); omega)) (by rw [gcd_step m n]))
      simp only [impl_divisor.l0]; rw [if_neg (by omega), tmod_nat]
/-- Both fractions. -/
def lowOf (a b : Int) : Int × Int := (wrap64 (Int.tdiv a (Nat.gcd a.toNat b.toNat : Nat)), wrap64 (Int.tdiv b (Nat.gcd a.toNat b.toNat : Nat)))
theorem lowest_f (a b : Int) (ha : 0 ≤ a) (ha1 : a ≤ 1000000) (hb : 0 < b) (hb1 : b ≤ 1000000) : Ev (fun k => impl_lowest.f k a b) (lowOf a b) := by
  obtain ⟨m, rfl⟩ := Int.eq_ofNat_of_zero_le ha
  obtain ⟨n, rfl⟩ := Int.eq_ofNat_of_zero_le (show 0 ≤ b by omega)
  have hg : 0 < Nat.gcd m n := Nat.gcd_pos_of_pos_right _ (by omega)
  exact Ev.bind (divisor_l n m (by omega) (by omega)) (Ev.if_neg (by omega) (Ev.same (Ev.now _) (by unfold lowOf; simp)))

/-! #### glow -/
theorem gLow_l (n : Nat) : ∀ (m : Nat), Ev (fun k => laws_gLow.l0 k (m : Int) (n : Int)) ((Nat.gcd m n : Nat) == 1) := by
  induction n using Nat.strongRecOn with
  | _ n ih =>
    intro m
    by_cases hn : n = 0
    · subst hn
      exact Ev.step (f := fun _ => some (((m : Int)) == 1)) (fun k => by simp only [laws_gLow.l0]; rw [if_neg (by omega)]) (Ev.same (Ev.now _) (by simp only [Nat.gcd_zero_right]; rw [Bool.eq_iff_iff]; simp only [beq_iff_eq]; omega))
    · exact Ev.step (f := fun k => laws_gLow.l0 k (n : Int) ((m % n : Nat) : Int)) (fun k => by simp only [laws_gLow.l0]; rw [if_pos (by omega), if_neg (by omega), tmod_nat]) (Ev.same (ih (m % n) (Nat.mod_lt _ (by omega)) n) (by rw [← gcd_step]))
/-- What lowOf tells is in lowest terms, and tells the same fraction. -/
theorem low_spec {a b : Int} (ha : 0 ≤ a) (ha1 : a ≤ 1000000) (hb : 0 < b) (hb1 : b ≤ 1000000) : 0 ≤ (lowOf a b).1 ∧ (lowOf a b).1 ≤ a ∧ 1 ≤ (lowOf a b).2 ∧ (lowOf a b).2 ≤ b ∧ (lowOf a b).1 * b = a * (lowOf a b).2 ∧ Ev (fun k => laws_gLow.f k (lowOf a b).1 (lowOf a b).2) true := by
  obtain ⟨m, rfl⟩ := Int.eq_ofNat_of_zero_le ha
  obtain ⟨n, rfl⟩ := Int.eq_ofNat_of_zero_le (show 0 ≤ b by omega)
  have hg : 0 < Nat.gcd m n := Nat.gcd_pos_of_pos_right _ (by omega)
  have hco : Nat.gcd (m / Nat.gcd m n) (n / Nat.gcd m n) = 1 := Nat.coprime_div_gcd_div_gcd hg
  obtain ⟨x, hx⟩ : ∃ x, x = m / Nat.gcd m n := ⟨_, rfl⟩
  obtain ⟨y, hy⟩ : ∃ y, y = n / Nat.gcd m n := ⟨_, rfl⟩
  have h1 : x ≤ m := by rw [hx]; exact Nat.div_le_self m (Nat.gcd m n)
  have h2 : y ≤ n := by rw [hy]; exact Nat.div_le_self n (Nat.gcd m n)
  have h3 : 0 < y := by rw [hy]; exact Nat.div_pos (Nat.le_of_dvd (by omega) (Nat.gcd_dvd_right m n)) hg
  have q1 : m = Nat.gcd m n * x := by rw [hx]; exact (Nat.mul_div_cancel' (Nat.gcd_dvd_left m n)).symm
  have q2 : n = Nat.gcd m n * y := by rw [hy]; exact (Nat.mul_div_cancel' (Nat.gcd_dvd_right m n)).symm
  have e1 : (lowOf (m : Int) (n : Int)).1 = (x : Int) := by
    unfold lowOf
    simp only [Int.toNat_natCast]
    rw [Int.tdiv_eq_ediv_of_nonneg (by omega), ← Int.natCast_ediv, ← hx]
    exact w64 (by omega) (by omega)
  have e2 : (lowOf (m : Int) (n : Int)).2 = (y : Int) := by
    unfold lowOf
    simp only [Int.toNat_natCast]
    rw [Int.tdiv_eq_ediv_of_nonneg (by omega), ← Int.natCast_ediv, ← hy]
    exact w64 (by omega) (by omega)
  have h4 : x * n = m * y := by
    calc x * n = x * (Nat.gcd m n * y) := by rw [← q2]
      _ = Nat.gcd m n * x * y := by rw [← Nat.mul_assoc, Nat.mul_comm x]
      _ = m * y := by rw [← q1]
  rw [← hx, ← hy] at hco
  rw [e1, e2]
  have h5 : (x : Int) * (n : Int) = (m : Int) * (y : Int) := by exact_mod_cast h4
  have h6 := gLow_l y x
  rw [hco] at h6
  clear hco hx hy q1 q2 e1 e2 h4 hg
  refine ⟨Int.natCast_nonneg x, Int.ofNat_le.mpr h1, Int.ofNat_le.mpr h3, Int.ofNat_le.mpr h2, h5, ?_⟩
  refine Ev.congr (fun k => by unfold laws_gLow.f; rfl) (Ev.if_neg (Int.not_lt.mpr (Int.ofNat_le.mpr h3)) (Ev.if_neg (Int.not_lt.mpr (Int.natCast_nonneg x)) ?_))
  exact Ev.step (fun k => by simp only [laws_gLow.j0]) (Ev.same h6 (by rfl))

/-! #### sum -/
/-! ### sums -/
def sumW : List Int → Int → Int
  | [], s => s
  | x :: xs, s => sumW xs (wrap64 (s + x))
theorem agSum_l (l : List Int) (hb : l.length ≤ 1048576) (d : Nat) : ∀ (i : Nat) (s : Int), i + d = l.length → Ev (fun k => spec_agSum.l0 k s l (l.length : Int) (i : Int)) (sumW (l.drop i) s) := by
  induction d with
  | zero =>
    intro i s hi
    exact Ev.step (f := fun _ => some s) (fun k => by simp only [spec_agSum.l0]; rw [if_neg (by omega)]) (Ev.same (Ev.now _) (by rw [List.drop_of_length_le (by omega)]; rfl))
  | succ d ih =>
    intro i s hi
    have ew : wrap64 ((i : Int) + 1) = ((i + 1 : Nat) : Int) := by rw [w64 (by omega) (by omega)]; omega
    refine Ev.step (f := fun k => spec_agSum.l0 k (wrap64 (s + rd l (i : Int))) l (l.length : Int) ((i + 1 : Nat) : Int)) (fun k => ?_) (Ev.same (ih (i + 1) _ (by omega)) (by rw [drop_rd l i (by omega)]; rfl))
    simp only [spec_agSum.l0]; rw [if_pos (by omega), if_pos (by omega), if_pos (by omega), ew]
theorem agSum_f (l : List Int) (hb : l.length ≤ 1048576) : Ev (fun k => spec_agSum.f k l) (sumW l 0) := Ev.same (agSum_l l hb l.length 0 _ (by omega)) (by simp)
theorem total_l (l : List Int) (hb : l.length ≤ 1048576) (d : Nat) : ∀ (i : Nat) (s : Int), i + d = l.length → Ev (fun k => impl_total.l0 k s l (l.length : Int) (i : Int)) (sumW (l.drop i) s) := by
  induction d with
  | zero =>
    intro i s hi
    exact Ev.step (f := fun _ => some s) (fun k => by simp only [impl_total.l0]; rw [if_neg (by omega)]) (Ev.same (Ev.now _) (by rw [List.drop_of_length_le (by omega)]; rfl))
  | succ d ih =>
    intro i s hi
    have ew : wrap64 ((i : Int) + 1) = ((i + 1 : Nat) : Int) := by rw [w64 (by omega) (by omega)]; omega
    refine Ev.step (f := fun k => impl_total.l0 k (wrap64 (s + rd l (i : Int))) l (l.length : Int) ((i + 1 : Nat) : Int)) (fun k => ?_) (Ev.same (ih (i + 1) _ (by omega)) (by rw [drop_rd l i (by omega)]; rfl))
    simp only [impl_total.l0]; rw [if_pos (by omega), if_pos (by omega), if_pos (by omega), ew]
theorem total_f (l : List Int) (hb : l.length ≤ 1048576) : Ev (fun k => impl_total.f k l) (sumW l 0) := Ev.same (total_l l hb l.length 0 _ (by omega)) (by simp)
theorem sumW_eq (l : List Int) : ∀ s, (∀ x ∈ l, -1000000 ≤ x ∧ x ≤ 1000000) → -4611686018427387904 + 1000000 * (l.length : Int) ≤ s → s + 1000000 * (l.length : Int) ≤ 4611686018427387904 → sumW l s = s + l.sum := by
  induction l with
  | nil => intro s _ _ _; simp [sumW]
  | cons x xs ih =>
    intro s h h3 h4
    have hx := h x (by simp)
    simp only [List.length_cons] at h3 h4
    simp only [sumW]
    rw [w64 (by omega) (by omega), ih (s + x) (fun y hy => h y (by simp [hy])) (by omega) (by omega)]
    simp; omega

/-! #### goodsum -/
theorem good_sum {l : List Int} (hg : goodB l = true) : sumW l 0 = l.sum ∧ 0 ≤ l.sum ∧ l.sum ≤ 960 := by
  have hl := good_len hg
  have key : ∀ m : List Int, (∀ x ∈ m, 0 ≤ x ∧ x ≤ 120) → 0 ≤ m.sum ∧ m.sum ≤ 120 * (m.length : Int) := by
    intro m
    induction m with
    | nil => intro _; simp
    | cons x xs ih =>
      intro h
      have hx := h x (by simp)
      have := ih (fun y hy => h y (by simp [hy]))
      simp only [List.sum_cons, List.length_cons]
      omega
  have hs := key l (fun x hx => good_mem hg hx)
  refine ⟨?_, hs.1, by omega⟩
  have := sumW_eq l 0 (fun x hx => by have := good_mem hg hx; omega) (by omega) (by omega)
  simpa using this

/-! #### gsame -/
/-! ### the laws' own looks at lists -/
theorem gSame_l (l : List Int) (hb : l.length ≤ 1048576) (d : Nat) : ∀ (i : Nat), i + d = l.length → Ev (fun k => laws_gSame.l0 k l l (l.length : Int) (i : Int)) true := by
  induction d with
  | zero =>
    intro i hi
    exact Ev.step (f := fun _ => some true) (fun k => by simp only [laws_gSame.l0]; rw [if_neg (by omega)]) (Ev.now _)
  | succ d ih =>
    intro i hi
    have ew : wrap64 ((i : Int) + 1) = ((i + 1 : Nat) : Int) := by rw [w64 (by omega) (by omega)]; omega
    exact Ev.step (f := fun k => laws_gSame.l0 k l l (l.length : Int) ((i + 1 : Nat) : Int)) (fun k => by simp only [laws_gSame.l0]; rw [if_pos (by omega), if_pos (by omega), if_pos (by omega), if_pos (by omega), if_pos trivial, ew]) (ih (i + 1) (by omega))
theorem gSame_f (l : List Int) (hb : l.length ≤ 1048576) : Ev (fun k => laws_gSame.f k l l) true :=
  Ev.congr (fun k => by unfold laws_gSame.f; rfl) (Ev.if_pos rfl (gSame_l l hb l.length 0 (by omega)))

/-! #### mean -/
def meanOf (l : List Int) : Int × Int × Bool := if goodB l = true then ((lowOf (sumW l 0) (l.length : Int)).1, (lowOf (sumW l 0) (l.length : Int)).2, true) else (0, 0, false)
theorem implMean_f (l : List Int) : Ev (fun k => impl_MeanAge.f k l) (meanOf l) := by
  refine Ev.congr (fun k => by unfold impl_MeanAge.f; rfl) (Ev.got (areAges_f l) ?_)
  cases hg : goodB l with
  | true =>
    have hl := good_len hg
    obtain ⟨e, h0, h1⟩ := good_sum hg
    exact Ev.if_pos rfl (Ev.bind (total_f l (by omega)) (Ev.bind (lowest_f _ _ (by omega) (by omega) (by omega) (by omega)) (Ev.same (Ev.now _) (by unfold meanOf; rw [if_pos hg]))))
  | false => exact Ev.if_neg (by simp) (Ev.same (Ev.now _) (by unfold meanOf; rw [if_neg (by rw [hg]; simp)]))

/-! #### passdraw -/
theorem drawAI {s : List Int} (hs : Byt s) : ∃ l y, Ev (fun k => spec_DrawAgesIn.f k s) (l, y) ∧ l.length ≤ 10 := by
  obtain ⟨l, a, u, h, hl, b0, b1⟩ := ages_f hs 0 (Int.le_refl _) (by omega)
  obtain ⟨r, a2, u2, e, _, c0, c1⟩ := among_f hs u [0, 1, 3, 10, 40, (-1), (-2), (-5), (-9), (-30), 120, (-120), 4611686018427387904] (by decide) (show 0 ≤ a by omega) (by omega)
  exact ⟨l, r, Ev.congr (fun k => by unfold spec_DrawAgesIn.f; rfl) (Ev.bind h (by exact Ev.got e (Ev.now _))), hl⟩
theorem drawTM {s : List Int} (hs : Byt s) : ∃ l x y, Ev (fun k => spec_DrawYearsToMean.f k s) (l, x, y) ∧ l.length ≤ 10 := by
  obtain ⟨l, a, u, h, hl, b0, b1⟩ := ages_f hs 0 (Int.le_refl _) (by omega)
  obtain ⟨r, a2, u2, e, _, c0, c1⟩ := among_f hs u [0, 10, 20, 25, 41, 61, 100, (-1), 10000, 10001] (by decide) (show 0 ≤ a by omega) (by omega)
  obtain ⟨q, a3, u3, e3, _, d0, d1⟩ := among_f hs u2 [1, 2, 3, 4, 0, 100, 101] (by decide) (show 0 ≤ a2 by omega) (by omega)
  exact ⟨l, r, q, Ev.congr (fun k => by unfold spec_DrawYearsToMean.f; rfl) (Ev.bind h (by exact Ev.got e (by exact Ev.got e3 (Ev.now _)))), hl⟩
theorem drawTP {s : List Int} (hs : Byt s) : ∃ l y, Ev (fun k => spec_DrawYearsToProduct.f k s) (l, y) ∧ l.length ≤ 10 := by
  obtain ⟨l, a, u, h, hl, b0, b1⟩ := ages_f hs 0 (Int.le_refl _) (by omega)
  obtain ⟨r, a2, u2, e, _, c0, c1⟩ := among_f hs u [0, 1, 12, 100, 1000, 5000, 100000, 4611686018427387904, (-1)] (by decide) (show 0 ≤ a by omega) (by omega)
  exact ⟨l, r, Ev.congr (fun k => by unfold spec_DrawYearsToProduct.f; rfl) (Ev.bind h (by exact Ev.got e (Ev.now _))), hl⟩
theorem drawBY {s : List Int} (hs : Byt s) : ∃ l y, Ev (fun k => spec_DrawBirthYears.f k s) (l, y) ∧ l.length ≤ 10 := by
  obtain ⟨l, a, u, h, hl, b0, b1⟩ := ages_f hs 0 (Int.le_refl _) (by omega)
  obtain ⟨r, a2, u2, e, _, c0, c1⟩ := among_f hs u [2000, 1990, 120, 119, 3000, 3001] (by decide) (show 0 ≤ a by omega) (by omega)
  exact ⟨l, r, Ev.congr (fun k => by unfold spec_DrawBirthYears.f; rfl) (Ev.bind h (by exact Ev.got e (Ev.now _))), hl⟩
theorem drawTS_l {s : List Int} (hs : Byt s) (l : List Int) (hl : l.length ≤ 10) {a : Int} (u : Int) (h0 : 0 ≤ a) (h1 : a ≤ 1000) (d : Nat) : ∀ (i : Nat) (sum : Int), i + d = l.length → ∃ y, Ev (fun k => spec_DrawYearsToSum.l0 k l sum l (l.length : Int) (i : Int) s a u) (l, y) := by
  induction d with
  | zero =>
    intro i sum hi
    obtain ⟨r, a2, u2, e, _, c0, c1⟩ := among_f hs u [0, (l.length : Int), wrap64 (2 * (l.length : Int)), wrap64 (-(l.length : Int)), 7, 1, (-200), 1099511627776] (by simp) h0 (by omega)
    exact ⟨wrap64 (sum + r), Ev.step (fun k => by simp only [spec_DrawYearsToSum.l0]; rw [if_neg (by omega)]) (by exact Ev.got e (Ev.now _))⟩
  | succ d ih =>
    intro i sum hi
    have ew : wrap64 ((i : Int) + 1) = ((i + 1 : Nat) : Int) := by rw [w64 (by omega) (by omega)]; omega
    obtain ⟨y, h⟩ := ih (i + 1) (wrap64 (sum + (if 120 < (if rd l (i : Int) < 0 then 0 else rd l (i : Int)) then 120 else (if rd l (i : Int) < 0 then 0 else rd l (i : Int))))) (by omega)
    refine ⟨y, Ev.step (fun k => ?_) h⟩
    simp only [spec_DrawYearsToSum.l0]
    rw [if_pos (by omega), if_pos (by omega), if_pos (by omega), most_f, ew]
    simp only [Option.bind_some]
    rw [least_f]
    rfl
theorem drawTS {s : List Int} (hs : Byt s) : ∃ l y, Ev (fun k => spec_DrawYearsToSum.f k s) (l, y) ∧ l.length ≤ 10 := by
  obtain ⟨l, a, u, h, hl, b0, b1⟩ := ages_f hs 0 (Int.le_refl _) (by omega)
  obtain ⟨y, h2⟩ := drawTS_l hs l hl u (show 0 ≤ a by omega) (by omega) l.length 0 0 (by omega)
  exact ⟨l, y, Ev.congr (fun k => by unfold spec_DrawYearsToSum.f; rfl) (Ev.bind h h2), hl⟩
theorem drawAB_l {s : List Int} (hs : Byt s) (d : Nat) : ∀ (acc : List Int) (a u : Int), acc.length + d ≤ 100 → 0 ≤ a → a + 2 * d ≤ 1000000 → ∃ l y, Ev (fun k => spec_DrawAgesOfBirths.l0 k acc (d : Int) s a u) (l, y) ∧ l.length = acc.length + d := by
  induction d with
  | zero =>
    intro acc a u _ h0 h1
    obtain ⟨r, a2, u2, e, _, c0, c1⟩ := among_f hs u [2000, 2000, 2003, 1999, 0, 3000, 3001] (by decide) h0 (by omega)
    exact ⟨acc, r, Ev.step (fun k => by simp only [spec_DrawAgesOfBirths.l0]; rw [if_neg (by omega)]) (by exact Ev.got e (Ev.now _)), rfl⟩
  | succ d ih =>
    intro acc a u ha h0 h1
    obtain ⟨r, a1, u1, e, _, b0, b1⟩ := among_f hs u [1990, 1985, 2000, 1999, 1960, 1880, 1879, 2001, (-1), 3001, 1995, 1970] (by decide) h0 (by omega)
    obtain ⟨l, y, h, hl⟩ := ih (acc ++ [r]) a1 u1 (by simp; omega) (by omega) (by omega)
    have ew : wrap64 (((d + 1 : Nat) : Int) - 1) = (d : Int) := by rw [w64 (by omega) (by omega)]; omega
    exact ⟨l, y, Ev.step (fun k => by simp only [spec_DrawAgesOfBirths.l0]; rw [if_pos (show ((d + 1 : Nat) : Int) > 0 by omega), ew]) (Ev.got e (Ev.if_pos (show acc.length < 17592186044416 by omega) h)), by rw [hl]; simp; omega⟩
theorem drawAB {s : List Int} (hs : Byt s) : ∃ l y, Ev (fun k => spec_DrawAgesOfBirths.f k s) (l, y) ∧ l.length ≤ 10 := by
  obtain ⟨r, a, u, e, r0, r1, b0, b1⟩ := pick_f hs 0 6 (Int.le_refl _) (by omega)
  obtain ⟨n, rfl⟩ := Int.eq_ofNat_of_zero_le r0
  obtain ⟨l, y, h, hl⟩ := drawAB_l hs n [] a u (by simp; omega) (by omega) (by omega)
  exact ⟨l, y, Ev.congr (fun k => by unfold spec_DrawAgesOfBirths.f; rfl) (Ev.got e h), by simp at hl; omega⟩

/-! #### sumin -/
def siOf (l : List Int) (y : Int) : Int × Bool := if fitB l y = true then (sumW (inY l y) 0, true) else (0, false)
theorem specSI_f (l : List Int) (y : Int) : Ev (fun k => spec_SumIn.f k l y) (siOf l y) := by
  refine Ev.congr (fun k => by unfold spec_SumIn.f; rfl) (Ev.bind (agFit_f l y) ?_)
  cases hf : fitB l y with
  | true =>
    have := good_len (fit_good hf).1
    exact Ev.if_pos rfl (Ev.bind (agIn_f l y (by omega)) (Ev.bind (agSum_f _ (by rw [inY_length]; omega)) (Ev.same (Ev.now _) (by unfold siOf; rw [if_pos hf]))))
  | false => exact Ev.if_neg (by simp) (Ev.same (Ev.now _) (by unfold siOf; rw [if_neg (by rw [hf]; simp)]))
theorem implSI_f (l : List Int) (y : Int) : Ev (fun k => impl_SumIn.f k l y) (siOf l y) := by
  have h1 := implAI_f l y
  have hl := aiOf_length l y
  have e : siOf l y = (sumW (aiOf l y).1 0, (aiOf l y).2) := by
    unfold siOf aiOf
    cases hf : fitB l y with
    | true => simp
    | false => simp [sumW]
  rw [e]
  generalize aiOf l y = r at h1 hl
  obtain ⟨m, c⟩ := r
  simp only at hl
  exact Ev.bind h1 (Ev.bind (total_f m (by omega)) (Ev.now _))

/-! #### years -/
/-! ### years looked through, one by one -/
def firstOf (q : Int → Bool) : Int → Nat → Int × Bool
  | _, 0 => (0, false)
  | y, d + 1 => if q y = true then (y, true) else firstOf q (y + 1) d
theorem loop_first {g : Nat → Int → Option (Int × Bool)} {q : Int → Bool} {lo hi : Int} (hs : ∀ (y : Int) (r : Int × Bool), lo ≤ y → y ≤ hi → Ev (fun k => g k (y + 1)) r → Ev (fun k => g k y) (if q y = true then (y, true) else r))
    (h0 : Ev (fun k => g k (hi + 1)) (0, false)) (d : Nat) : ∀ y, lo ≤ y → y + d = hi + 1 → Ev (fun k => g k y) (firstOf q y d) := by
  induction d with
  | zero =>
    intro y h1 h2
    have : y = hi + 1 := by omega
    subst this
    exact h0
  | succ d ih =>
    intro y h1 h2
    exact hs y _ h1 (by omega) (ih (y + 1) (by omega) (by omega))
theorem loop_all {β : Type} {g : Nat → List Int → Int → Option β} {q : Int → Bool} {lo hi : Int} (F : List Int → β) (hs : ∀ (acc : List Int) (y : Int) (r : β), lo ≤ y → y ≤ hi → acc.length ≤ 1000 → Ev (fun k => g k (if q y = true then acc ++ [y] else acc) (y + 1)) r → Ev (fun k => g k acc y) r)
    (h0 : ∀ acc : List Int, Ev (fun k => g k acc (hi + 1)) (F acc)) (d : Nat) : ∀ (y : Int) (acc : List Int), lo ≤ y → y + d = hi + 1 → acc.length + d ≤ 1000 → Ev (fun k => g k acc y) (F (acc ++ coll q (fun j => j) y d)) := by
  induction d with
  | zero =>
    intro y acc h1 h2 _
    have : y = hi + 1 := by omega
    subst this
    simpa [coll] using h0 acc
  | succ d ih =>
    intro y acc h1 h2 h3
    refine hs acc y _ h1 (by omega) (by omega) ?_
    by_cases hq : q y = true
    · have := ih (y + 1) (acc ++ [y]) (by omega) (by omega) (by simp; omega)
      simp only [if_pos hq]
      simpa [coll, hq] using this
    · have := ih (y + 1) acc (by omega) (by omega) (by omega)
      simp only [if_neg hq]
      simpa [coll, hq] using this
/-- How many years are fit. -/
def nY (l : List Int) : Nat := (hiY l + 1 - loY l).toNat
theorem nY_eq {l : List Int} (hg : goodB l = true) : loY l + (nY l : Int) = hiY l + 1 ∧ nY l ≤ 241 := by
  have := range_bounds hg
  unfold nY
  omega
theorem inY_rd {l : List Int} {y i : Int} (h0 : 0 ≤ i) (h1 : i < (l.length : Int)) : rd (inY l y) i = wrap64 (rd l i + y) := by
  obtain ⟨n, rfl⟩ := Int.eq_ofNat_of_zero_le h0
  rw [rd_at l n (by omega), rd_at (inY l y) n (by rw [inY_length]; omega)]
  simp [inY]
theorem inY_fit {l : List Int} (hg : goodB l = true) {y : Int} (h0 : loY l ≤ y) (h1 : y ≤ hiY l) : inY l y = l.map (· + y) := by
  unfold inY
  refine List.map_congr_left fun x hx => ?_
  have := (fit_iff (good_len hg).1 y).mp ⟨h0, h1⟩ x hx
  exact w64 (by omega) (by omega)
theorem rd_fit {l : List Int} (hg : goodB l = true) {y i : Int} (h0 : loY l ≤ y) (h1 : y ≤ hiY l) (i0 : 0 ≤ i) (i1 : i < (l.length : Int)) : 0 ≤ rd l i + y ∧ rd l i + y ≤ 120 ∧ wrap64 (rd l i + y) = rd l i + y := by
  have := (fit_iff (good_len hg).1 y).mp ⟨h0, h1⟩ _ (rd_mem i0 i1)
  exact ⟨this.1, this.2, w64 (by omega) (by omega)⟩

/-! #### ally -/
theorem allY_f (p : Nat → List Int → Option Bool) (q : Int → Bool) {l : List Int} (hg : goodB l = true) (hq : ∀ y, loY l ≤ y → y ≤ hiY l → Ev (fun k => p k (inY l y)) (q y)) : Ev (fun k => allY.f p k l) (coll q (fun j => j) (loY l) (nY l)) := by
  have hb := range_bounds hg
  have hl := good_len hg
  have hn := nY_eq hg
  refine Ev.congr (fun k => by unfold allY.f; rfl) (Ev.got (fitYears_f hg) ?_)
  refine Ev.same (loop_all (g := fun k acc y => allY.l0 p k l acc (hiY l) y) (q := q) (lo := loY l) (hi := hiY l) (fun z => z) (fun acc y r h0 h1 h2 h3 => ?_) (fun acc => ?_) (nY l) (loY l) [] (Int.le_refl _) hn.1 (by simp; omega)) (by simp)
  · have ew : wrap64 (y + 1) = y + 1 := w64 (by omega) (by omega)
    refine Ev.step (fun k => by simp only [allY.l0]; rw [if_pos h1, ew]) (Ev.bind (inYears_f l y (by omega)) (Ev.bind (hq y h0 h1) ?_))
    cases hqy : q y with
    | true => exact Ev.if_pos rfl (Ev.if_pos (by omega) (by simpa [hqy] using h3))
    | false => exact Ev.if_neg (by simp) (by simpa [hqy] using h3)
  · exact Ev.step (f := fun _ => some acc) (fun k => by simp only [allY.l0]; rw [if_neg (by omega)]) (Ev.now _)

/-! #### product -/
/-! ### products -/
def prodW : List Int → Int → Int
  | [], s => s
  | x :: xs, s => prodW xs (wrap64 (s * x))
theorem agProduct_l (l : List Int) (hb : l.length ≤ 1048576) (d : Nat) : ∀ (i : Nat) (s : Int), i + d = l.length → Ev (fun k => spec_agProduct.l0 k s l (l.length : Int) (i : Int)) (prodW (l.drop i) s) := by
  induction d with
  | zero =>
    intro i s hi
    exact Ev.step (f := fun _ => some s) (fun k => by simp only [spec_agProduct.l0]; rw [if_neg (by omega)]) (Ev.same (Ev.now _) (by rw [List.drop_of_length_le (by omega)]; rfl))
  | succ d ih =>
    intro i s hi
    have ew : wrap64 ((i : Int) + 1) = ((i + 1 : Nat) : Int) := by rw [w64 (by omega) (by omega)]; omega
    refine Ev.step (f := fun k => spec_agProduct.l0 k (wrap64 (s * rd l (i : Int))) l (l.length : Int) ((i + 1 : Nat) : Int)) (fun k => ?_) (Ev.same (ih (i + 1) _ (by omega)) (by rw [drop_rd l i (by omega)]; rfl))
    simp only [spec_agProduct.l0]; rw [if_pos (by omega), if_pos (by omega), if_pos (by omega), ew]
theorem agProduct_f (l : List Int) (hb : l.length ≤ 1048576) : Ev (fun k => spec_agProduct.f k l) (prodW l 1) := Ev.same (agProduct_l l hb l.length 0 _ (by omega)) (by simp)
theorem product_l (l : List Int) (hb : l.length ≤ 1048576) (d : Nat) : ∀ (i : Nat) (s : Int), i + d = l.length → Ev (fun k => impl_product.l0 k s l (l.length : Int) (i : Int)) (prodW (l.drop i) s) := by
  induction d with
  | zero =>
    intro i s hi
    exact Ev.step (f := fun _ => some s) (fun k => by simp only [impl_product.l0]; rw [if_neg (by omega)]) (Ev.same (Ev.now _) (by rw [List.drop_of_length_le (by omega)]; rfl))
  | succ d ih =>
    intro i s hi
    have ew : wrap64 ((i : Int) + 1) = ((i + 1 : Nat) : Int) := by rw [w64 (by omega) (by omega)]; omega
    refine Ev.step (f := fun k => impl_product.l0 k (wrap64 (s * rd l (i : Int))) l (l.length : Int) ((i + 1 : Nat) : Int)) (fun k => ?_) (Ev.same (ih (i + 1) _ (by omega)) (by rw [drop_rd l i (by omega)]; rfl))
    simp only [impl_product.l0]; rw [if_pos (by omega), if_pos (by omega), if_pos (by omega), ew]
theorem product_f (l : List Int) (hb : l.length ≤ 1048576) : Ev (fun k => impl_product.f k l) (prodW l 1) := Ev.same (product_l l hb l.length 0 _ (by omega)) (by simp)

/-! #### toproduct -/
/-! ### the last year with a product of at most so much -/
def downOf (q : Int → Bool) : Int → Nat → Int × Bool
  | _, 0 => (0, false)
  | y, d + 1 => if q y = true then (y, true) else downOf q (y - 1) d
theorem coll_snoc (q : Int → Bool) (f : Int → Int) (d : Nat) : ∀ y, coll q f y (d + 1) = coll q f y d ++ (if q (y + d) = true then [f (y + d)] else []) := by
  induction d with
  | zero => intro y; simp [coll]
  | succ d ih =>
    intro y
    have e : y + 1 + (d : Int) = y + ((d + 1 : Nat) : Int) := by omega
    have h := ih (y + 1)
    rw [e] at h
    rw [show coll q f y (d + 1 + 1) = (if q y = true then f y :: coll q f (y + 1) (d + 1) else coll q f (y + 1) (d + 1)) from rfl, h, show coll q f y (d + 1) = (if q y = true then f y :: coll q f (y + 1) d else coll q f (y + 1) d) from rfl]
    by_cases hq : q y = true <;> simp [hq]
/-- What a list's last number tells. -/
def lastOf (z : List Int) : Int × Bool := if z.length = 0 then (0, false) else (rd z ((z.length : Int) - 1), true)
theorem lastOf_snoc (z : List Int) (x : Int) : lastOf (z ++ [x]) = (x, true) := by
  unfold lastOf
  rw [if_neg (by simp)]
  have e : (((z ++ [x]).length : Int) - 1) = ((z.length : Nat) : Int) := by simp
  rw [e, rd_at _ _ (by simp)]
  simp
theorem down_last (q : Int → Bool) (d : Nat) : ∀ lo : Int, downOf q (lo + d - 1) d = lastOf (coll q (fun j => j) lo d) := by
  induction d with
  | zero => intro lo; rfl
  | succ d ih =>
    intro lo
    rw [coll_snoc]
    have e : lo + ((d + 1 : Nat) : Int) - 1 = lo + (d : Int) := by omega
    rw [e]
    simp only [downOf]
    by_cases hq : q (lo + (d : Int)) = true
    · rw [if_pos hq, if_pos hq, lastOf_snoc]
    · rw [if_neg hq, if_neg hq, List.append_nil]; exact ih lo
def tpQ (l : List Int) (m y : Int) : Bool := decide (prodW (inY l y) 1 ≤ m)
def tpOk (l : List Int) (m : Int) : Prop := goodB l = true ∧ 0 ≤ m
instance (l : List Int) (m : Int) : Decidable (tpOk l m) := inferInstanceAs (Decidable (_ ∧ _))
def tpOf (l : List Int) (m : Int) : Int × Bool := if tpOk l m then lastOf (coll (tpQ l m) (fun j => j) (loY l) (nY l)) else (0, false)
theorem specTP_l (l : List Int) (m : Int) (hg : goodB l = true) (d : Nat) : ∀ y, y - d = loY l - 1 → y ≤ hiY l → Ev (fun k => spec_YearsToProduct.l0 k l m (loY l) y) (downOf (tpQ l m) y d) := by
  have hb := range_bounds hg
  have hl := good_len hg
  induction d with
  | zero =>
    intro y h1 h2
    exact Ev.step (f := fun _ => some (0, false)) (fun k => by simp only [spec_YearsToProduct.l0]; rw [if_neg (by omega)]) (Ev.now _)
  | succ d ih =>
    intro y h1 h2
    have ew : wrap64 (y - 1) = y - 1 := w64 (by omega) (by omega)
    refine Ev.step (fun k => by simp only [spec_YearsToProduct.l0]; rw [if_pos (show y ≥ loY l by omega), ew]) (Ev.bind (agIn_f l y (by omega)) (Ev.bind (agProduct_f (inY l y) (by rw [inY_length]; omega)) ?_))
    by_cases h : prodW (inY l y) 1 ≤ m
    · exact Ev.if_pos h (Ev.same (Ev.now _) (by simp [downOf, tpQ, h]))
    · exact Ev.if_neg h (Ev.same (ih (y - 1) (by omega) (by omega)) (by simp [downOf, tpQ, h]))
theorem specTP_f (l : List Int) (m : Int) : Ev (fun k => spec_YearsToProduct.f k l m) (tpOf l m) := by
  have bad : ∀ (h : ¬ tpOk l m) (c : Bool) (hc : c = true), Ev (fun k => spec_YearsToProduct.j0 k l m c) (tpOf l m) := by
    intro h c hc
    subst hc
    exact Ev.step (f := fun _ => some (0, false)) (fun k => by simp only [spec_YearsToProduct.j0, if_true]) (Ev.same (Ev.now _) (by unfold tpOf; rw [if_neg h]))
  refine Ev.congr (fun k => by unfold spec_YearsToProduct.f; rfl) (Ev.bind (agGood_f l) ?_)
  cases hg : goodB l with
  | true =>
    have hb := range_bounds hg
    have hn := nY_eq hg
    refine Ev.if_pos rfl ?_
    by_cases hm : m < 0
    · exact bad (fun h => by have := h.2; omega) _ (by simpa using hm)
    · refine Ev.step (fun k => by simp only [spec_YearsToProduct.j0]; rw [if_neg (by simpa using hm)]) (Ev.bind (agRange_f hg) (Ev.same (specTP_l l m hg (nY l) (hiY l) (by omega) (Int.le_refl _)) ?_))
      unfold tpOf
      rw [if_pos ⟨hg, by omega⟩, ← down_last]
      congr 1
      omega
  | false => exact Ev.if_neg (by simp) (bad (fun h => by have q := h.1; rw [hg] at q; simp at q) _ rfl)
theorem implTP_f (l : List Int) (m : Int) : Ev (fun k => impl_YearsToProduct.f k l m) (tpOf l m) := by
  refine Ev.congr (fun k => by unfold impl_YearsToProduct.f; rfl) (Ev.got (areAges_f l) ?_)
  cases hg : goodB l with
  | true =>
    have hl := good_len hg
    refine Ev.if_pos rfl ?_
    by_cases hm : m < 0
    · exact Ev.if_pos hm (Ev.same (Ev.now _) (by unfold tpOf; rw [if_neg (fun h => by have := h.2; omega)]))
    · refine Ev.if_neg hm (Ev.bind (allY_f _ (tpQ l m) hg (fun y _ _ => ?_)) ?_)
      · exact Ev.bind (Ev.bind (product_f (inY l y) (by rw [inY_length]; omega)) (Ev.now _)) (Ev.same (Ev.now _) rfl)
      · have e : tpOf l m = lastOf (coll (tpQ l m) (fun j => j) (loY l) (nY l)) := by unfold tpOf; rw [if_pos ⟨hg, by omega⟩]
        rw [e]
        generalize coll (tpQ l m) (fun j => j) (loY l) (nY l) = z
        unfold lastOf
        by_cases hz : z.length = 0
        · exact Ev.if_pos hz (Ev.same (Ev.now (0, false)) (by rw [if_pos hz]))
        · exact Ev.if_neg hz (Ev.same (Ev.now (rd z ((z.length : Int) - 1), true)) (by rw [if_neg hz]))
  | false => exact Ev.if_neg (by simp) (Ev.same (Ev.now _) (by unfold tpOf; rw [if_neg (fun h => by have q := h.1; rw [hg] at q; simp at q)]))

/-! #### firsty -/
theorem firstY_f (p : Nat → List Int → Option Bool) (q : Int → Bool) {l : List Int} (hg : goodB l = true) (hq : ∀ y, loY l ≤ y → y ≤ hiY l → Ev (fun k => p k (inY l y)) (q y)) : Ev (fun k => firstY.f p k l) (firstOf q (loY l) (nY l)) := by
  have hb := range_bounds hg
  have hl := good_len hg
  refine Ev.congr (fun k => by unfold firstY.f; rfl) (Ev.got (fitYears_f hg) ?_)
  refine loop_first (g := fun k y => firstY.l0 p k l (hiY l) y) (lo := loY l) (hi := hiY l) (fun y r h0 h1 h2 => ?_) ?_ (nY l) _ (Int.le_refl _) (nY_eq hg).1
  · have ew : wrap64 (y + 1) = y + 1 := w64 (by omega) (by omega)
    refine Ev.step (fun k => by simp only [firstY.l0]; rw [if_pos h1, ew]) (Ev.bind (inYears_f l y (by omega)) (Ev.bind (hq y h0 h1) ?_))
    cases hqy : q y with
    | true => exact Ev.if_pos rfl (Ev.same (Ev.now _) (by simp))
    | false => exact Ev.if_neg (by simp) (Ev.same h2 (by simp))
  · exact Ev.step (f := fun _ => some (0, false)) (fun k => by simp only [firstY.l0]; rw [if_neg (by omega)]) (Ev.now _)

/-! #### yearstosum -/
def tsQ (l : List Int) (s y : Int) : Bool := decide (sumW (inY l y) 0 = s)
def tsOf (l : List Int) (s : Int) : Int × Bool := if goodB l = true then firstOf (tsQ l s) (loY l) (nY l) else (0, false)
theorem specTS_f (l : List Int) (s : Int) : Ev (fun k => spec_YearsToSum.f k l s) (tsOf l s) := by
  refine Ev.congr (fun k => by unfold spec_YearsToSum.f; rfl) (Ev.bind (agGood_f l) ?_)
  unfold tsOf
  cases hg : goodB l with
  | true =>
    have hb := range_bounds hg
    have hl := good_len hg
    refine Ev.if_pos rfl (Ev.bind (agRange_f hg) (Ev.same (loop_first (g := fun k y => spec_YearsToSum.l0 k l s (hiY l) y) (q := tsQ l s) (lo := loY l) (hi := hiY l) (fun y r h0 h1 h2 => ?_) ?_ (nY l) _ (Int.le_refl _) (nY_eq hg).1) (by simp)))
    · have ew : wrap64 (y + 1) = y + 1 := w64 (by omega) (by omega)
      refine Ev.step (fun k => by simp only [spec_YearsToSum.l0]; rw [if_pos h1, ew]) (Ev.bind (agIn_f l y (by omega)) (Ev.bind (agSum_f (inY l y) (by rw [inY_length]; omega)) ?_))
      by_cases h : sumW (inY l y) 0 = s
      · exact Ev.if_pos h (Ev.same (Ev.now _) (by simp [tsQ, h]))
      · exact Ev.if_neg h (Ev.same h2 (by simp [tsQ, h]))
    · exact Ev.step (f := fun _ => some (0, false)) (fun k => by simp only [spec_YearsToSum.l0]; rw [if_neg (by omega)]) (Ev.now _)
  | false => exact Ev.if_neg (by simp) (Ev.same (Ev.now _) (by simp))
theorem implTS_f (l : List Int) (s : Int) : Ev (fun k => impl_YearsToSum.f k l s) (tsOf l s) := by
  refine Ev.congr (fun k => by unfold impl_YearsToSum.f; rfl) (Ev.got (areAges_f l) ?_)
  unfold tsOf
  cases hg : goodB l with
  | true =>
    have hl := good_len hg
    refine Ev.if_pos rfl (Ev.same (firstY_f _ (tsQ l s) hg (fun y _ _ => ?_)) (by simp))
    exact Ev.bind (total_f (inY l y) (by rw [inY_length]; omega)) (Ev.same (Ev.now _) (by unfold tsQ; rw [Bool.beq_eq_decide_eq]))
  | false => exact Ev.if_neg (by simp) (Ev.same (Ev.now _) (by simp))

/-! #### passmore -/
/-! ### what the closed forms tell, for the great law -/
theorem fit_in {l : List Int} {y : Int} (h : fitB l y = true) : goodB (inY l y) = true ∧ inY l y = l.map (· + y) := by
  obtain ⟨hg, h0, h1⟩ := fit_good h
  have e := inY_fit hg h0 h1
  refine ⟨?_, e⟩
  have hl := good_len hg
  have ha : allB (inY l y) 0 120 = true := by
    unfold allB
    rw [e]
    refine List.all_eq_true.mpr fun x hx => ?_
    obtain ⟨z, hz, rfl⟩ := List.mem_map.mp hx
    have := (fit_iff hl.1 y).mp ⟨h0, h1⟩ z hz
    exact decide_eq_true (by omega)
  unfold goodB
  rw [ha, inY_length, decide_eq_true (by omega)]
  rfl
theorem sum_shift (l : List Int) (y : Int) : (l.map (· + y)).sum = l.sum + y * (l.length : Int) := by
  induction l with
  | nil => simp
  | cons x xs ih => simp only [List.map_cons, List.sum_cons, List.length_cons, ih]; push_cast; rw [Int.mul_add]; omega
theorem sum_fit {l : List Int} {y : Int} (h : fitB l y = true) : sumW (inY l y) 0 = l.sum + y * (l.length : Int) ∧ 0 ≤ l.sum + y * (l.length : Int) ∧ l.sum + y * (l.length : Int) ≤ 960 := by
  obtain ⟨hg, e⟩ := fit_in h
  have := good_sum hg
  rw [e, sum_shift] at this
  rw [e]
  exact this
theorem fit_zero {l : List Int} (hg : goodB l = true) : fitB l 0 = true := by
  have := range_bounds hg
  unfold fitB
  rw [hg, decide_eq_true (by omega)]; rfl
theorem fit_mem {l : List Int} {y : Int} (h : fitB l y = true) {x : Int} (hx : x ∈ l) : 0 ≤ x + y ∧ x + y ≤ 120 := by
  obtain ⟨hg, h0, h1⟩ := fit_good h
  exact (fit_iff (good_len hg).1 y).mp ⟨h0, h1⟩ x hx
theorem fit_back {l : List Int} {y : Int} (h : fitB l y = true) : fitB (inY l y) (-y) = true ∧ inY (inY l y) (-y) = l := by
  obtain ⟨hg, h0, h1⟩ := fit_good h
  obtain ⟨hg2, e⟩ := fit_in h
  have hl := good_len hg2
  have hf : loY (inY l y) ≤ -y ∧ -y ≤ hiY (inY l y) := (fit_iff hl.1 (-y)).mpr fun x hx => by
    rw [e] at hx
    obtain ⟨z, hz, rfl⟩ := List.mem_map.mp hx
    have := good_mem hg hz
    omega
  refine ⟨by unfold fitB; rw [hg2, decide_eq_true hf]; rfl, ?_⟩
  rw [inY_fit hg2 hf.1 hf.2, e, List.map_map]
  conv => rhs; rw [← List.map_id l]
  exact List.map_congr_left fun x _ => by show x + y + -y = x; omega
theorem firstOf_spec (q : Int → Bool) (d : Nat) : ∀ (y : Int), (firstOf q y d).2 = true → q (firstOf q y d).1 = true ∧ y ≤ (firstOf q y d).1 ∧ (firstOf q y d).1 < y + d := by
  induction d with
  | zero => intro y h; simp [firstOf] at h
  | succ d ih =>
    intro y h
    by_cases hq : q y = true
    · simp only [firstOf, if_pos hq] at h ⊢
      exact ⟨hq, by omega, by omega⟩
    · simp only [firstOf, if_neg hq] at h ⊢
      have := ih (y + 1) h
      exact ⟨this.1, by omega, by omega⟩
theorem firstOf_only (q : Int → Bool) (z : Int) (hq : q z = true) (ho : ∀ x, q x = true → x = z) (d : Nat) : ∀ (y : Int), y ≤ z → z < y + d → firstOf q y d = (z, true) := by
  induction d with
  | zero => intro y h0 h1; omega
  | succ d ih =>
    intro y h0 h1
    by_cases hy : y = z
    · subst hy
      simp only [firstOf, if_pos hq]
    · have hn : ¬ q y = true := fun h => hy (ho y h)
      simp only [firstOf, if_neg hn]
      exact ih (y + 1) (by omega) (by omega)
theorem downOf_spec (q : Int → Bool) (d : Nat) : ∀ (y : Int), (downOf q y d).2 = true → q (downOf q y d).1 = true ∧ y - d < (downOf q y d).1 ∧ (downOf q y d).1 ≤ y ∧ ∀ x, (downOf q y d).1 < x → x ≤ y → q x = false := by
  induction d with
  | zero => intro y h; simp [downOf] at h
  | succ d ih =>
    intro y h
    by_cases hq : q y = true
    · simp only [downOf, if_pos hq] at h ⊢
      exact ⟨hq, by omega, by omega, fun x h1 h2 => by omega⟩
    · simp only [downOf, if_neg hq] at h ⊢
      have := ih (y - 1) h
      refine ⟨this.1, by omega, by omega, fun x h1 h2 => ?_⟩
      by_cases hx : x = y
      · subst hx; simpa using hq
      · exact this.2.2.2 x h1 (by omega)
/-- The year in which a told sum is reached. -/
theorem ts_back {l : List Int} {y : Int} (h : fitB l y = true) : tsOf l (sumW (inY l y) 0) = (y, true) := by
  obtain ⟨hg, h0, h1⟩ := fit_good h
  have hl := good_len hg
  have hn := nY_eq hg
  have hs := sum_fit h
  unfold tsOf
  rw [if_pos hg]
  have key : ∀ x, loY l ≤ x → x ≤ hiY l → (tsQ l (sumW (inY l y) 0) x = true ↔ x = y) := by
    intro x a b
    have hx : fitB l x = true := by unfold fitB; rw [hg, decide_eq_true ⟨a, b⟩]; rfl
    have hs2 := sum_fit hx
    unfold tsQ
    rw [decide_eq_true_iff, hs.1, hs2.1]
    constructor
    · intro e
      have e2 : x * (l.length : Int) = y * (l.length : Int) := by omega
      exact Int.eq_of_mul_eq_mul_right (by omega) e2
    · intro e; rw [e]
  have gen : ∀ (d : Nat) (z : Int), loY l ≤ z → z ≤ y → z + d = hiY l + 1 → firstOf (tsQ l (sumW (inY l y) 0)) z d = (y, true) := by
    intro d
    induction d with
    | zero => intro z a b c; omega
    | succ d ih =>
      intro z a b c
      by_cases hz : z = y
      · have := (key z a (by omega)).mpr hz
        simp only [firstOf, if_pos this]
        rw [hz]
      · have : ¬ tsQ l (sumW (inY l y) 0) z = true := fun e => hz ((key z a (by omega)).mp e)
        simp only [firstOf, if_neg this]
        exact ih (z + 1) (by omega) (by omega) (by omega)
  exact gen (nY l) (loY l) (Int.le_refl _) h0 hn.1
theorem ts_spec {l : List Int} {s : Int} (h : (tsOf l s).2 = true) : siOf l (tsOf l s).1 = (s, true) := by
  unfold tsOf at h ⊢
  by_cases hg : goodB l = true
  · rw [if_pos hg] at h ⊢
    have hn := nY_eq hg
    obtain ⟨hq, h0, h1⟩ := firstOf_spec _ _ _ h
    have hf : fitB l (firstOf (tsQ l s) (loY l) (nY l)).1 = true := by unfold fitB; rw [hg, decide_eq_true (by omega)]; rfl
    unfold siOf
    rw [if_pos hf]
    have hq2 : sumW (inY l (firstOf (tsQ l s) (loY l) (nY l)).1) 0 = s := of_decide_eq_true hq
    rw [hq2]
  · rw [if_neg hg] at h; simp at h

/-! #### productin -/
def piOf (l : List Int) (y : Int) : Int × Bool := if fitB l y = true then (prodW (inY l y) 1, true) else (0, false)
theorem specPI_f (l : List Int) (y : Int) : Ev (fun k => spec_ProductIn.f k l y) (piOf l y) := by
  refine Ev.congr (fun k => by unfold spec_ProductIn.f; rfl) (Ev.bind (agFit_f l y) ?_)
  cases hf : fitB l y with
  | true =>
    have := good_len (fit_good hf).1
    exact Ev.if_pos rfl (Ev.bind (agIn_f l y (by omega)) (Ev.bind (agProduct_f _ (by rw [inY_length]; omega)) (Ev.same (Ev.now _) (by unfold piOf; rw [if_pos hf]))))
  | false => exact Ev.if_neg (by simp) (Ev.same (Ev.now _) (by unfold piOf; rw [if_neg (by rw [hf]; simp)]))
theorem implPI_f (l : List Int) (y : Int) : Ev (fun k => impl_ProductIn.f k l y) (piOf l y) := by
  refine Ev.congr (fun k => by unfold impl_ProductIn.f; rfl) (Ev.bind (implAI_f l y) ?_)
  have hl := aiOf_length l y
  cases hf : fitB l y with
  | true =>
    have e : aiOf l y = (inY l y, true) := by unfold aiOf; rw [if_pos hf]
    rw [e] at hl ⊢
    exact Ev.if_pos rfl (Ev.bind (product_f _ (show (inY l y).length ≤ 1048576 by simp only at hl; omega)) (Ev.same (Ev.now _) (by unfold piOf; rw [if_pos hf])))
  | false =>
    have e : aiOf l y = ([], false) := by unfold aiOf; rw [if_neg (by rw [hf]; simp)]
    rw [e]
    exact Ev.if_neg (by simp) (Ev.same (Ev.now _) (by unfold piOf; rw [if_neg (by rw [hf]; simp)]))

/-! #### yearsrange -/
def yrOf (l : List Int) : Int × Int × Bool := if goodB l = true then (loY l, hiY l, true) else (0, 0, false)
theorem implYR_f (l : List Int) : impl_YearsRange.f l = some (yrOf l) := by
  unfold impl_YearsRange.f
  rw [areAges_f]
  simp only [Option.bind_some]
  cases hg : goodB l with
  | true => rw [if_pos rfl, fitYears_f hg]; unfold yrOf; rw [if_pos hg]; rfl
  | false => rw [if_neg (by simp)]; unfold yrOf; rw [if_neg (by rw [hg]; simp)]

/-! #### yearsrangespec -/
theorem specYR_f (l : List Int) : Ev (fun k => spec_YearsRange.f k l) (yrOf l) := by
  refine Ev.congr (fun k => by unfold spec_YearsRange.f; rfl) (Ev.bind (agGood_f l) ?_)
  cases hg : goodB l with
  | true => exact Ev.if_pos rfl (Ev.bind (agRange_f hg) (Ev.same (Ev.now _) (by unfold yrOf; rw [if_pos hg])))
  | false => exact Ev.if_neg (by simp) (Ev.same (Ev.now _) (by unfold yrOf; rw [if_neg (by rw [hg]; simp)]))

/-! #### yearstomean -/
def tmQ (l : List Int) (n d y : Int) : Bool := decide (wrap64 (sumW (inY l y) 0 * d) = wrap64 (n * (l.length : Int)))
def tmOk (l : List Int) (n d : Int) : Prop := goodB l = true ∧ (0 ≤ n ∧ n ≤ 10000) ∧ (1 ≤ d ∧ d ≤ 100)
instance (l : List Int) (n d : Int) : Decidable (tmOk l n d) := inferInstanceAs (Decidable (_ ∧ _ ∧ _))
def tmOf (l : List Int) (n d : Int) : Int × Bool := if tmOk l n d then firstOf (tmQ l n d) (loY l) (nY l) else (0, false)
theorem specTM_f (l : List Int) (n d : Int) : Ev (fun k => spec_YearsToMean.f k l n d) (tmOf l n d) := by
  have bad : ∀ (h : ¬ tmOk l n d) (c : Bool) (hc : c = true), Ev (fun k => spec_YearsToMean.j0 k l n d c) (tmOf l n d) := by
    intro h c hc
    subst hc
    exact Ev.step (f := fun _ => some (0, false)) (fun k => by simp only [spec_YearsToMean.j0, if_true]) (Ev.same (Ev.now _) (by unfold tmOf; rw [if_neg h]))
  refine Ev.congr (fun k => by unfold spec_YearsToMean.f; rfl) (Ev.bind (agGood_f l) ?_)
  cases hg : goodB l with
  | true =>
    have hb := range_bounds hg
    have hl := good_len hg
    refine Ev.if_pos rfl (Ev.got (l1In_f n 0 10000) ?_)
    by_cases hn : 0 ≤ n ∧ n ≤ 10000
    · refine Ev.if_pos (by simpa using hn) (Ev.got (l1In_f d 1 100) ?_)
      by_cases hd : 1 ≤ d ∧ d ≤ 100
      · refine Ev.step (fun k => by simp only [spec_YearsToMean.j0]; rw [if_neg (by rw [decide_eq_true hd]; simp)]) (Ev.bind (agRange_f hg) (Ev.same (loop_first (g := fun k y => spec_YearsToMean.l0 k l n d (hiY l) y) (q := tmQ l n d) (lo := loY l) (hi := hiY l) (fun y r h0 h1 h2 => ?_) ?_ (nY l) _ (Int.le_refl _) (nY_eq hg).1) (by unfold tmOf; rw [if_pos ⟨hg, hn, hd⟩])))
        · have ew : wrap64 (y + 1) = y + 1 := w64 (by omega) (by omega)
          refine Ev.step (fun k => by simp only [spec_YearsToMean.l0]; rw [if_pos h1, ew]) (Ev.bind (agIn_f l y (by omega)) (Ev.bind (agSum_f (inY l y) (by rw [inY_length]; omega)) ?_))
          by_cases h : wrap64 (sumW (inY l y) 0 * d) = wrap64 (n * (l.length : Int))
          · exact Ev.if_pos h (Ev.same (Ev.now _) (by simp [tmQ, h]))
          · exact Ev.if_neg h (Ev.same h2 (by simp [tmQ, h]))
        · exact Ev.step (f := fun _ => some (0, false)) (fun k => by simp only [spec_YearsToMean.l0]; rw [if_neg (by omega)]) (Ev.now _)
      · exact bad (fun h => hd h.2.2) _ (by rw [decide_eq_false hd]; rfl)
    · exact Ev.if_neg (by simpa using hn) (bad (fun h => hn h.2.1) _ rfl)
  | false => exact Ev.if_neg (by simp) (bad (fun h => by have q := h.1; rw [hg] at q; simp at q) _ rfl)
theorem implTM_f (l : List Int) (n d : Int) : Ev (fun k => impl_YearsToMean.f k l n d) (tmOf l n d) := by
  refine Ev.congr (fun k => by unfold impl_YearsToMean.f; rfl) (Ev.got (areAges_f l) ?_)
  cases hg : goodB l with
  | true =>
    have hl := good_len hg
    refine Ev.if_pos rfl (Ev.got (between_f n 0 10000) ?_)
    by_cases hn : 0 ≤ n ∧ n ≤ 10000
    · refine Ev.if_pos (by simpa using hn) (Ev.got (between_f d 1 100) ?_)
      by_cases hd : 1 ≤ d ∧ d ≤ 100
      · refine Ev.if_pos (by simpa using hd) (Ev.same (firstY_f _ (tmQ l n d) hg (fun y _ _ => ?_)) (by unfold tmOf; rw [if_pos ⟨hg, hn, hd⟩]))
        exact Ev.bind (total_f (inY l y) (by rw [inY_length]; omega)) (Ev.same (Ev.now _) (by unfold tmQ; rw [inY_length, Bool.beq_eq_decide_eq]))
      · exact Ev.if_neg (by simpa using hd) (Ev.same (Ev.now _) (by unfold tmOf; rw [if_neg (fun h => hd h.2.2)]))
    · exact Ev.if_neg (by simpa using hn) (Ev.same (Ev.now _) (by unfold tmOf; rw [if_neg (fun h => hn h.2.1)]))
  | false => exact Ev.if_neg (by simp) (Ev.same (Ev.now _) (by unfold tmOf; rw [if_neg (fun h => by have q := h.1; rw [hg] at q; simp at q)]))

end Go.Proofs.Ytekkcbafilnffaa.P
