import Derived.Test.YtpokmbcfmaepcaaP0
import Derived.Test.YtpokmbcfmaepcaaP1
import Derived.Test.YtpokmbcfmaepcaaP2
import Derived.Test.YtpokmbcfmaepcaaP3
import Derived.Test.YtpokmbcfmaepcaaP4
import Derived.Test.YtpokmbcfmaepcaaP5
import Derived.Test.YtpokmbcfmaepcaaP6
import Derived.Test.YtpokmbcfmaepcaaP7
namespace Go.Proofs.Ytpokmbcfmaepcaa.P
open Go.RowKit Go.Proofs.YtpokmbcfmaepcaaW.PrintWords Go.Proofs.YtpokmbcfmaepcaaW.PrintLast Go.Proofs.YtpokmbcfmaepcaaW.PrintMore
set_option linter.unusedVariables false
set_option linter.unusedSimpArgs false

/-! #### base -/
/-! ### plain helpers: numbers and lists -/
theorem w64 {x : Int} (h0 : -9223372036854775808 ≤ x) (h1 : x ≤ 9223372036854775807) : wrap64 x = x := by
  unfold wrap64
  omega
/-- One item for each i, i + 1, .. (d of them) that p takes. -/
def coll (p : Int → Bool) (f : Int → Int) : Int → Nat → List Int
  | _, 0 => []
  | i, d + 1 => if p i = true then f i :: coll p f (i + 1) d else coll p f (i + 1) d
theorem coll_length (p : Int → Bool) (f : Int → Int) (d : Nat) : ∀ i, (coll p f i d).length ≤ d := by
  induction d with
  | zero => intro i; simp [coll]
  | succ d ih =>
    intro i
    have h := ih (i + 1)
    by_cases hp : p i = true
    · simp only [coll, hp, if_true, List.length_cons]; omega
    · simp only [coll, hp]; exact Nat.le_succ_of_le h
theorem Ev.same {α : Type} {g : Nat → Option α} {r s : α} (h : Ev g r) (e : r = s) : Ev g s := e ▸ h
theorem Ev.const {α : Type} {g : Nat → Option α} {r : α} (h : ∀ k, g k = some r) : Ev g r := ⟨0, fun k _ => h k⟩
theorem Ev.if_pos {α : Type} {c : Prop} [Decidable c] {g f : Nat → Option α} {r : α} (hc : c) (h : Ev g r) : Ev (fun k => if c then g k else f k) r := by
  obtain ⟨K, h⟩ := h
  exact ⟨K, fun k hk => by simp only [_root_.if_pos hc]; exact h k hk⟩
theorem Ev.if_neg {α : Type} {c : Prop} [Decidable c] {g f : Nat → Option α} {r : α} (hc : ¬ c) (h : Ev f r) : Ev (fun k => if c then g k else f k) r := by
  obtain ⟨K, h⟩ := h
  exact ⟨K, fun k hk => by simp only [_root_.if_neg hc]; exact h k hk⟩
/-- A call whose value is known at once. -/
theorem Ev.got {α β : Type} {o : Option α} {a : α} {f : Nat → α → Option β} {r : β} (ho : o = some a) (h : Ev (fun k => f k a) r) : Ev (fun k => o.bind (f k)) r := by
  subst ho
  exact h

/-! #### in -/
/-! ### numbers between bounds -/
theorem l1In_f (a b c : Int) : spec_l1In.f a b c = some (decide (b ≤ a ∧ a ≤ c)) := by
  unfold spec_l1In.f
  split
  · rename_i h; simp [h]
  · rename_i h; simp; omega
theorem between_f (a b c : Int) : impl_between.f a b c = some (decide (b ≤ a ∧ a ≤ c)) := by
  unfold impl_between.f
  split
  · rename_i h; simp [h]
  · rename_i h; simp; omega

/-! #### ages -/
/-! ### ages -/
def allB (l : List Int) (a b : Int) : Bool := l.all fun x => decide (a ≤ x ∧ x ≤ b)
def goodB (l : List Int) : Bool := decide (1 ≤ (l.length : Int) ∧ (l.length : Int) ≤ 8) && allB l 0 120
theorem allB_mem {l : List Int} {a b : Int} (h : allB l a b = true) {x : Int} (hx : x ∈ l) : a ≤ x ∧ x ≤ b := by
  unfold allB at h
  simpa using List.all_eq_true.mp h x hx
theorem good_len {l : List Int} (h : goodB l = true) : 1 ≤ l.length ∧ l.length ≤ 8 := by
  unfold goodB at h
  simp at h
  omega
theorem good_all {l : List Int} (h : goodB l = true) : allB l 0 120 = true := by
  unfold goodB at h
  simp only [Bool.and_eq_true] at h
  exact h.2
theorem good_mem {l : List Int} (h : goodB l = true) {x : Int} (hx : x ∈ l) : 0 ≤ x ∧ x ≤ 120 := allB_mem (good_all h) hx
theorem rd_at (l : List Int) (i : Nat) (h : i < l.length) : rd l (i : Int) = l[i] := by simp [rd, List.getD_eq_getElem?_getD, List.getElem?_eq_getElem h]
theorem rd_mem {l : List Int} {i : Int} (h0 : 0 ≤ i) (h1 : i < (l.length : Int)) : rd l i ∈ l := by
  obtain ⟨n, rfl⟩ := Int.eq_ofNat_of_zero_le h0
  rw [rd_at l n (by omega)]
  exact List.getElem_mem _
theorem drop_rd (l : List Int) (i : Nat) (h : i < l.length) : l.drop i = rd l (i : Int) :: l.drop (i + 1) := by rw [rd_at l i h]; exact List.drop_eq_getElem_cons h
theorem l1All_l (l : List Int) (a b : Int) (hb : l.length ≤ 4611686018427387904) (d : Nat) : ∀ (i : Nat), i + d = l.length → Ev (fun k => spec_l1All.l0 k a b l (l.length : Int) (i : Int)) (allB (l.drop i) a b) := by
  induction d with
  | zero =>
    intro i hi
    exact Ev.step (f := fun _ => some true) (fun k => by simp only [spec_l1All.l0]; rw [if_neg (by omega)]) (Ev.same (Ev.now _) (by rw [List.drop_of_length_le (by omega)]; rfl))
  | succ d ih =>
    intro i hi
    have ew : wrap64 ((i : Int) + 1) = ((i + 1 : Nat) : Int) := by rw [w64 (by omega) (by omega)]; omega
    refine Ev.step (fun k => by simp only [spec_l1All.l0]; rw [if_pos (by omega), if_pos (by omega), if_pos (by omega), ew, l1In_f]) ?_
    rw [drop_rd l i (by omega)]
    by_cases h : a ≤ rd l (i : Int) ∧ rd l (i : Int) ≤ b
    · exact Ev.if_pos (by simpa using h) (Ev.same (ih (i + 1) (by omega)) (by simp [allB, h]))
    · exact Ev.if_neg (by simpa using h) (Ev.same (Ev.now _) (by simp only [allB, List.all_cons, decide_eq_false h, Bool.false_and]))
theorem l1All_f (l : List Int) (a b : Int) (hb : l.length ≤ 4611686018427387904) : Ev (fun k => spec_l1All.f k l a b) (allB l a b) :=
  Ev.same (l1All_l l a b hb l.length 0 (by omega)) (by simp)
theorem agGood_f (l : List Int) : Ev (fun k => spec_agGood.f k l) (goodB l) := by
  refine Ev.congr (fun k => by unfold spec_agGood.f; rfl) (Ev.got (l1In_f (l.length : Int) 1 8) ?_)
  by_cases h : 1 ≤ (l.length : Int) ∧ (l.length : Int) ≤ 8
  · refine Ev.if_pos (by simpa using h) (Ev.bind (l1All_f l 0 120 (by omega)) (Ev.same (Ev.now _) ?_))
    unfold goodB; rw [decide_eq_true h]; simp
  · refine Ev.if_neg (by simpa using h) (Ev.same (Ev.now _) ?_)
    unfold goodB; rw [decide_eq_false h]; simp
theorem areBetween_f (l : List Int) (a b : Int) : impl_areBetween.f l a b = some (allB l a b) := by
  unfold impl_areBetween.f allB
  simp only [Option.some.injEq]
  induction l with
  | nil => rfl
  | cons x xs ih => simp only [List.any_cons, List.all_cons, Bool.not_or, Bool.not_not, ih]
theorem areAges_f (l : List Int) : impl_AreAges.f l = some (goodB l) := by
  unfold impl_AreAges.f goodB
  rw [between_f]
  simp only [Option.bind_some, areBetween_f]
  by_cases h : 1 ≤ (l.length : Int) ∧ (l.length : Int) ≤ 8
  · rw [decide_eq_true h]; simp
  · rw [decide_eq_false h]; simp

/-! #### inyears -/
/-! ### ages in other years -/
def inY (l : List Int) (y : Int) : List Int := l.map fun x => wrap64 (x + y)
theorem inY_length (l : List Int) (y : Int) : (inY l y).length = l.length := by simp [inY]
theorem inYears_l (y : Int) (l : List Int) (hb : l.length ≤ 1048576) (d : Nat) : ∀ (i : Nat) (acc : List Int), i + d = l.length → acc.length + d ≤ 1048576 → Ev (fun k => impl_inYears.l0 k y acc l (l.length : Int) (i : Int)) (acc ++ (l.drop i).map (fun x => wrap64 (x + y))) := by
  induction d with
  | zero =>
    intro i acc hi ha
    exact Ev.step (f := fun _ => some acc) (fun k => by simp only [impl_inYears.l0]; rw [if_neg (by omega)]) (Ev.same (Ev.now _) (by rw [List.drop_of_length_le (by omega)]; simp))
  | succ d ih =>
    intro i acc hi ha
    have ew : wrap64 ((i : Int) + 1) = ((i + 1 : Nat) : Int) := by rw [w64 (by omega) (by omega)]; omega
    refine Ev.step (f := fun k => impl_inYears.l0 k y (acc ++ [wrap64 (rd l (i : Int) + y)]) l (l.length : Int) ((i + 1 : Nat) : Int)) (fun k => ?_) (Ev.same (ih (i + 1) _ (by omega) (by simp; omega)) (by rw [drop_rd l i (by omega)]; simp))
    simp only [impl_inYears.l0]; rw [if_pos (by omega), if_pos (by omega), if_pos (by omega), if_pos (by omega), ew]
theorem inYears_f (l : List Int) (y : Int) (hb : l.length ≤ 1048576) : Ev (fun k => impl_inYears.f k l y) (inY l y) := Ev.same (inYears_l y l hb l.length 0 [] (by omega) (by simp; omega)) (by simp [inY])

/-! #### range -/
/-! ### fit years -/
theorem minFrom_le (l : List Int) : ∀ m, minFrom l m ≤ m ∧ ∀ x ∈ l, minFrom l m ≤ x := by
  induction l with
  | nil => intro m; simp [minFrom]
  | cons a l ih =>
    intro m
    simp only [minFrom]
    by_cases h : a < m
    · rw [if_pos h]
      obtain ⟨h1, h2⟩ := ih a
      refine ⟨by omega, fun x hx => ?_⟩
      rcases List.mem_cons.mp hx with rfl | hx
      · exact h1
      · exact h2 x hx
    · rw [if_neg h]
      obtain ⟨h1, h2⟩ := ih m
      refine ⟨h1, fun x hx => ?_⟩
      rcases List.mem_cons.mp hx with rfl | hx
      · omega
      · exact h2 x hx
theorem maxFrom_ge (l : List Int) : ∀ m, m ≤ maxFrom l m ∧ ∀ x ∈ l, x ≤ maxFrom l m := by
  induction l with
  | nil => intro m; simp [maxFrom]
  | cons a l ih =>
    intro m
    simp only [maxFrom]
    by_cases h : m < a
    · rw [if_pos h]
      obtain ⟨h1, h2⟩ := ih a
      refine ⟨by omega, fun x hx => ?_⟩
      rcases List.mem_cons.mp hx with rfl | hx
      · exact h1
      · exact h2 x hx
    · rw [if_neg h]
      obtain ⟨h1, h2⟩ := ih m
      refine ⟨h1, fun x hx => ?_⟩
      rcases List.mem_cons.mp hx with rfl | hx
      · omega
      · exact h2 x hx
theorem minFrom_mem (l : List Int) : ∀ m, minFrom l m = m ∨ minFrom l m ∈ l := by
  induction l with
  | nil => intro m; simp [minFrom]
  | cons a l ih =>
    intro m
    simp only [minFrom]
    by_cases h : a < m
    · rw [if_pos h]
      rcases ih a with e | e
      · exact .inr (by rw [e]; simp)
      · exact .inr (List.mem_cons_of_mem _ e)
    · rw [if_neg h]
      rcases ih m with e | e
      · exact .inl e
      · exact .inr (List.mem_cons_of_mem _ e)
theorem maxFrom_mem (l : List Int) : ∀ m, maxFrom l m = m ∨ maxFrom l m ∈ l := by
  induction l with
  | nil => intro m; simp [maxFrom]
  | cons a l ih =>
    intro m
    simp only [maxFrom]
    by_cases h : m < a
    · rw [if_pos h]
      rcases ih a with e | e
      · exact .inr (by rw [e]; simp)
      · exact .inr (List.mem_cons_of_mem _ e)
    · rw [if_neg h]
      rcases ih m with e | e
      · exact .inl e
      · exact .inr (List.mem_cons_of_mem _ e)
def loY (l : List Int) : Int := -(minFrom (l.drop 1) (rd l 0))
def hiY (l : List Int) : Int := 120 - maxFrom (l.drop 1) (rd l 0)
theorem head_drop {l : List Int} (h : 1 ≤ l.length) : l = rd l 0 :: l.drop 1 := by
  have := drop_rd l 0 (by omega)
  simpa using this
theorem min_all {l : List Int} (h : 1 ≤ l.length) {x : Int} (hx : x ∈ l) : minFrom (l.drop 1) (rd l 0) ≤ x := by
  obtain ⟨h1, h2⟩ := minFrom_le (l.drop 1) (rd l 0)
  rw [head_drop h] at hx
  rcases List.mem_cons.mp hx with rfl | hx
  · exact h1
  · exact h2 x hx
theorem max_all {l : List Int} (h : 1 ≤ l.length) {x : Int} (hx : x ∈ l) : x ≤ maxFrom (l.drop 1) (rd l 0) := by
  obtain ⟨h1, h2⟩ := maxFrom_ge (l.drop 1) (rd l 0)
  rw [head_drop h] at hx
  rcases List.mem_cons.mp hx with rfl | hx
  · exact h1
  · exact h2 x hx
theorem min_in {l : List Int} (h : 1 ≤ l.length) : minFrom (l.drop 1) (rd l 0) ∈ l := by
  rcases minFrom_mem (l.drop 1) (rd l 0) with e | e
  · rw [e]; exact rd_mem (by omega) (by omega)
  · exact List.mem_of_mem_drop e
theorem max_in {l : List Int} (h : 1 ≤ l.length) : maxFrom (l.drop 1) (rd l 0) ∈ l := by
  rcases maxFrom_mem (l.drop 1) (rd l 0) with e | e
  · rw [e]; exact rd_mem (by omega) (by omega)
  · exact List.mem_of_mem_drop e
theorem range_bounds {l : List Int} (hg : goodB l = true) : -120 ≤ loY l ∧ loY l ≤ 0 ∧ 0 ≤ hiY l ∧ hiY l ≤ 120 := by
  have h1 := good_mem hg (min_in (good_len hg).1)
  have h2 := good_mem hg (max_in (good_len hg).1)
  unfold loY hiY
  omega
/-- Years are fit just if all are of an age then. -/
theorem fit_iff {l : List Int} (h : 1 ≤ l.length) (y : Int) : (loY l ≤ y ∧ y ≤ hiY l) ↔ ∀ x ∈ l, 0 ≤ x + y ∧ x + y ≤ 120 := by
  constructor
  · intro hy x hx
    have h1 := min_all h hx
    have h2 := max_all h hx
    unfold loY hiY at hy
    omega
  · intro ha
    have h1 := ha _ (min_in h)
    have h2 := ha _ (max_in h)
    unfold loY hiY
    omega
theorem least_f (m x : Int) : spec_l1Least.f m x = some (if x < m then x else m) := by
  unfold spec_l1Least.f
  by_cases h : m < x
  · rw [if_pos h, if_neg (by omega)]
  · rw [if_neg h]
    by_cases h2 : x < m
    · rw [if_pos h2]
    · rw [if_neg h2]; congr 1; omega
theorem most_f (m x : Int) : spec_l1Most.f m x = some (if m < x then x else m) := by
  unfold spec_l1Most.f
  by_cases h : m > x
  · rw [if_pos h, if_neg (by omega)]
  · rw [if_neg h]
    by_cases h2 : m < x
    · rw [if_pos h2]
    · rw [if_neg h2]; congr 1; omega
theorem agRange_l (l : List Int) (hb : l.length ≤ 1048576) (d : Nat) : ∀ (i : Nat) (m n : Int), i + d = l.length → Ev (fun k => spec_agRange.l0 k m n l (l.length : Int) (i : Int)) (wrap64 (-(minFrom (l.drop i) m)), wrap64 (120 - maxFrom (l.drop i) n)) := by
  induction d with
  | zero =>
    intro i m n hi
    exact Ev.step (f := fun _ => some (wrap64 (-m), wrap64 (120 - n))) (fun k => by simp only [spec_agRange.l0]; rw [if_neg (by omega)]) (Ev.same (Ev.now _) (by rw [List.drop_of_length_le (by omega)]; rfl))
  | succ d ih =>
    intro i m n hi
    have ew : wrap64 ((i : Int) + 1) = ((i + 1 : Nat) : Int) := by rw [w64 (by omega) (by omega)]; omega
    refine Ev.step (f := fun k => spec_agRange.l0 k (if rd l (i : Int) < m then rd l (i : Int) else m) (if n < rd l (i : Int) then rd l (i : Int) else n) l (l.length : Int) ((i + 1 : Nat) : Int)) (fun k => ?_) (Ev.same (ih (i + 1) _ _ (by omega)) (by rw [drop_rd l i (by omega)]; rfl))
    simp only [spec_agRange.l0]; rw [if_pos (by omega), if_pos (by omega), if_pos (by omega), ew, least_f, most_f]; rfl
theorem agRange_f {l : List Int} (hg : goodB l = true) : Ev (fun k => spec_agRange.f k l) (loY l, hiY l) := by
  have hl := good_len hg
  have hb := range_bounds hg
  refine Ev.congr (fun k => by unfold spec_agRange.f; rfl) (Ev.if_pos (by omega) (Ev.same (agRange_l l (by omega) l.length 0 _ _ (by omega)) ?_))
  have e1 : minFrom (l.drop 0) (rd l 0) = minFrom (l.drop 1) (rd l 0) := by
    have := drop_rd l 0 (by omega)
    simp only [Int.ofNat_zero, Nat.zero_add] at this
    rw [this]; simp [minFrom]
  have e2 : maxFrom (l.drop 0) (rd l 0) = maxFrom (l.drop 1) (rd l 0) := by
    have := drop_rd l 0 (by omega)
    simp only [Int.ofNat_zero, Nat.zero_add] at this
    rw [this]; simp [maxFrom]
  rw [e1, e2]
  unfold loY hiY at hb ⊢
  rw [w64 (by omega) (by omega), w64 (by omega) (by omega)]
theorem fitYears_f {l : List Int} (hg : goodB l = true) : impl_fitYears.f l = some (loY l, hiY l) := by
  have hl := good_len hg
  have hb := range_bounds hg
  unfold impl_fitYears.f slices_Min_int_int.f slices_Max_int_int.f
  rw [if_pos (by omega), if_pos (by omega)]
  simp only [Option.bind_some]
  unfold loY hiY at hb ⊢
  rw [w64 (by omega) (by omega), w64 (by omega) (by omega)]

/-! #### years -/
/-! ### years looked through, one by one -/
def firstOf (q : Int → Bool) : Int → Nat → Int × Bool
  | _, 0 => (0, false)
  | y, d + 1 => if q y = true then (y, true) else firstOf q (y + 1) d
theorem loop_first {g : Nat → Int → Option (Int × Bool)} {q : Int → Bool} {lo hi : Int} (hs : ∀ (y : Int) (r : Int × Bool), lo ≤ y → y ≤ hi → Ev (fun k => g k (y + 1)) r → Ev (fun k => g k y) (if q y = true then (y, true) else r))
    (h0 : Ev (fun k => g k (hi + 1)) (0, false)) (d : Nat) : ∀ y, lo ≤ y → y + d = hi + 1 → Ev (fun k => g k y) (firstOf q y d) := by
  induction d with
  | zero =>
    intro y h1 h2
    have : y = hi + 1 := by omega
    subst this
    exact h0
  | succ d ih =>
    intro y h1 h2
    exact hs y _ h1 (by omega) (ih (y + 1) (by omega) (by omega))
theorem loop_all {β : Type} {g : Nat → List Int → Int → Option β} {q : Int → Bool} {lo hi : Int} (F : List Int → β) (hs : ∀ (acc : List Int) (y : Int) (r : β), lo ≤ y → y ≤ hi → acc.length ≤ 1000 → Ev (fun k => g k (if q y = true then acc ++ [y] else acc) (y + 1)) r → Ev (fun k => g k acc y) r)
    (h0 : ∀ acc : List Int, Ev (fun k => g k acc (hi + 1)) (F acc)) (d : Nat) : ∀ (y : Int) (acc : List Int), lo ≤ y → y + d = hi + 1 → acc.length + d ≤ 1000 → Ev (fun k => g k acc y) (F (acc ++ coll q (fun j => j) y d)) := by
  induction d with
  | zero =>
    intro y acc h1 h2 _
    have : y = hi + 1 := by omega
    subst this
    simpa [coll] using h0 acc
  | succ d ih =>
    intro y acc h1 h2 h3
    refine hs acc y _ h1 (by omega) (by omega) ?_
    by_cases hq : q y = true
    · have := ih (y + 1) (acc ++ [y]) (by omega) (by omega) (by simp; omega)
      simp only [if_pos hq]
      simpa [coll, hq] using this
    · have := ih (y + 1) acc (by omega) (by omega) (by omega)
      simp only [if_neg hq]
      simpa [coll, hq] using this
/-- How many years are fit. -/
def nY (l : List Int) : Nat := (hiY l + 1 - loY l).toNat
theorem nY_eq {l : List Int} (hg : goodB l = true) : loY l + (nY l : Int) = hiY l + 1 ∧ nY l ≤ 241 := by
  have := range_bounds hg
  unfold nY
  omega
theorem inY_rd {l : List Int} {y i : Int} (h0 : 0 ≤ i) (h1 : i < (l.length : Int)) : rd (inY l y) i = wrap64 (rd l i + y) := by
  obtain ⟨n, rfl⟩ := Int.eq_ofNat_of_zero_le h0
  rw [rd_at l n (by omega), rd_at (inY l y) n (by rw [inY_length]; omega)]
  simp [inY]
theorem inY_fit {l : List Int} (hg : goodB l = true) {y : Int} (h0 : loY l ≤ y) (h1 : y ≤ hiY l) : inY l y = l.map (· + y) := by
  unfold inY
  refine List.map_congr_left fun x hx => ?_
  have := (fit_iff (good_len hg).1 y).mp ⟨h0, h1⟩ x hx
  exact w64 (by omega) (by omega)
theorem rd_fit {l : List Int} (hg : goodB l = true) {y i : Int} (h0 : loY l ≤ y) (h1 : y ≤ hiY l) (i0 : 0 ≤ i) (i1 : i < (l.length : Int)) : 0 ≤ rd l i + y ∧ rd l i + y ≤ 120 ∧ wrap64 (rd l i + y) = rd l i + y := by
  have := (fit_iff (good_len hg).1 y).mp ⟨h0, h1⟩ _ (rd_mem i0 i1)
  exact ⟨this.1, this.2, w64 (by omega) (by omega)⟩

/-! #### ally -/
theorem allY_f (p : Nat → List Int → Option Bool) (q : Int → Bool) {l : List Int} (hg : goodB l = true) (hq : ∀ y, loY l ≤ y → y ≤ hiY l → Ev (fun k => p k (inY l y)) (q y)) : Ev (fun k => allY.f p k l) (coll q (fun j => j) (loY l) (nY l)) := by
  have hb := range_bounds hg
  have hl := good_len hg
  have hn := nY_eq hg
  refine Ev.congr (fun k => by unfold allY.f; rfl) (Ev.got (fitYears_f hg) ?_)
  refine Ev.same (loop_all (g := fun k acc y => allY.l0 p k l acc (hiY l) y) (q := q) (lo := loY l) (hi := hiY l) (fun z => z) (fun acc y r h0 h1 h2 h3 => ?_) (fun acc => ?_) (nY l) (loY l) [] (Int.le_refl _) hn.1 (by simp; omega)) (by simp)
  · have ew : wrap64 (y + 1) = y + 1 := w64 (by omega) (by omega)
    refine Ev.step (fun k => by simp only [allY.l0]; rw [if_pos h1, ew]) (Ev.bind (inYears_f l y (by omega)) (Ev.bind (hq y h0 h1) ?_))
    cases hqy : q y with
    | true => exact Ev.if_pos rfl (Ev.if_pos (by omega) (by simpa [hqy] using h3))
    | false => exact Ev.if_neg (by simp) (by simpa [hqy] using h3)
  · exact Ev.step (f := fun _ => some acc) (fun k => by simp only [allY.l0]; rw [if_neg (by omega)]) (Ev.now _)

/-! #### digits -/
/-! ### the sum of digits -/
def ds : Nat → Int → Int
  | 0, _ => 0
  | d + 1, n => n % 10 + ds d (n / 10)
theorem ds_zero (d : Nat) : ds d 0 = 0 := by
  induction d with
  | zero => rfl
  | succ d ih => simp [ds, ih]
theorem kiDigits_l (d : Nat) : ∀ (n s : Int), 0 ≤ n → n < 10 ^ d → 0 ≤ s → s + 10 * d ≤ 1000000 → n ≤ 1000000 → Ev (fun k => spec_kiDigits.l0 k n s) (s + ds d n) := by
  induction d with
  | zero =>
    intro n s h0 h1 _ _ _
    have : n = 0 := by simp at h1; omega
    subst this
    exact Ev.step (f := fun _ => some s) (fun k => by simp [spec_kiDigits.l0]) (Ev.same (Ev.now _) (by simp [ds]))
  | succ d ih =>
    intro n s h0 h1 hs hb hn
    by_cases hp : n > 0
    · have e1 : Int.tdiv n 10 = n / 10 := Int.tdiv_eq_ediv_of_nonneg h0
      have e2 : Int.tmod n 10 = n % 10 := Int.tmod_eq_emod_of_nonneg h0
      have w1 : wrap64 (n / 10) = n / 10 := w64 (by omega) (by omega)
      have w2 : wrap64 (s + n % 10) = s + n % 10 := w64 (by omega) (by omega)
      refine Ev.step (f := fun k => spec_kiDigits.l0 k (n / 10) (s + n % 10)) (fun k => ?_) (Ev.same (ih (n / 10) (s + n % 10) (by omega) ?_ (by omega) (by omega) (by omega)) ?_)
      · simp only [spec_kiDigits.l0]; rw [if_pos hp, e1, e2, w1, w2]
      · rw [Int.pow_succ] at h1; omega
      · simp only [ds]; omega
    · have : n = 0 := by omega
      subst this
      exact Ev.step (f := fun _ => some s) (fun k => by simp [spec_kiDigits.l0]) (Ev.same (Ev.now _) (by rw [ds_zero]; simp))
theorem digitSum_l (d : Nat) : ∀ (n s : Int), 0 ≤ n → n < 10 ^ d → 0 ≤ s → s + 10 * d ≤ 1000000 → n ≤ 1000000 → Ev (fun k => impl_digitSum.l0 k n s) (s + ds d n) := by
  induction d with
  | zero =>
    intro n s h0 h1 _ _ _
    have : n = 0 := by simp at h1; omega
    subst this
    exact Ev.step (f := fun _ => some s) (fun k => by simp [impl_digitSum.l0]) (Ev.same (Ev.now _) (by simp [ds]))
  | succ d ih =>
    intro n s h0 h1 hs hb hn
    by_cases hp : n > 0
    · have e1 : Int.tdiv n 10 = n / 10 := Int.tdiv_eq_ediv_of_nonneg h0
      have e2 : Int.tmod n 10 = n % 10 := Int.tmod_eq_emod_of_nonneg h0
      have w1 : wrap64 (n / 10) = n / 10 := w64 (by omega) (by omega)
      have w2 : wrap64 (s + n % 10) = s + n % 10 := w64 (by omega) (by omega)
      refine Ev.step (f := fun k => impl_digitSum.l0 k (n / 10) (s + n % 10)) (fun k => ?_) (Ev.same (ih (n / 10) (s + n % 10) (by omega) ?_ (by omega) (by omega) (by omega)) ?_)
      · simp only [impl_digitSum.l0]; rw [if_pos hp, e1, e2, w1, w2]
      · rw [Int.pow_succ] at h1; omega
      · simp only [ds]; omega
    · have : n = 0 := by omega
      subst this
      exact Ev.step (f := fun _ => some s) (fun k => by simp [impl_digitSum.l0]) (Ev.same (Ev.now _) (by rw [ds_zero]; simp))
theorem kiDigits_f (n : Int) (h0 : 0 ≤ n) (h1 : n < 100000) : Ev (fun k => spec_kiDigits.f k n) (ds 5 n) :=
  Ev.same (kiDigits_l 5 n 0 h0 (by omega) (by omega) (by omega) (by omega)) (by simp)
theorem digitSum_f (n : Int) (h0 : 0 ≤ n) (h1 : n < 100000) : Ev (fun k => impl_digitSum.f k n) (ds 5 n) :=
  Ev.same (digitSum_l 5 n 0 h0 (by omega) (by omega) (by omega) (by omega)) (by simp)

/-! #### alikesums -/
def yaQ (l : List Int) (y : Int) : Bool := l.all fun x => decide (ds 5 (x + y) = ds 5 (rd l 0 + y))
def yaOf (l : List Int) : List Int × Bool := if goodB l = true then (coll (yaQ l) (fun j => j) (loY l) (nY l), true) else ([], false)
theorem yaOf_length (l : List Int) : (yaOf l).1.length ≤ 1000 := by
  unfold yaOf
  split
  · rename_i h
    have h1 := nY_eq h
    have h2 := coll_length (yaQ l) (fun j => j) (nY l) (loY l)
    show (coll (yaQ l) (fun j => j) (loY l) (nY l)).length ≤ 1000
    omega
  · simp
theorem specYA_l (l : List Int) (hg : goodB l = true) (y : Int) (h0 : loY l ≤ y) (h1 : y ≤ hiY l) (acc : List Int) (ha : acc.length ≤ 1000) (r : List Int × Bool) (h3 : Ev (fun k => spec_YearsAlikeSums.l0 k l (if yaQ l y = true then acc ++ [y] else acc) (hiY l) (y + 1)) r) (d : Nat) :
    ∀ (i : Nat) (c : Bool), i + d = l.length → c = ((l.take i).all fun x => decide (ds 5 (x + y) = ds 5 (rd l 0 + y))) → Ev (fun k => spec_YearsAlikeSums.l1 k l acc (hiY l) y c l (l.length : Int) (i : Int)) r := by
  have hl := good_len hg
  have hb := range_bounds hg
  induction d with
  | zero =>
    intro i c hi hc
    have ew : wrap64 (y + 1) = y + 1 := w64 (by omega) (by omega)
    rw [List.take_of_length_le (by omega)] at hc
    refine Ev.step (fun k => by simp only [spec_YearsAlikeSums.l1]; rw [if_neg (by omega), ew]) ?_
    have e : yaQ l y = c := hc.symm
    rw [e] at h3
    cases c with
    | true => exact Ev.if_pos rfl (Ev.if_pos (by omega) (by simpa using h3))
    | false => exact Ev.if_neg (by simp) (by simpa using h3)
  | succ d ih =>
    intro i c hi hc
    have ew : wrap64 ((i : Int) + 1) = ((i + 1 : Nat) : Int) := by rw [w64 (by omega) (by omega)]; omega
    obtain ⟨m0, m1, me⟩ := rd_fit hg h0 h1 (i := (i : Int)) (by omega) (by omega)
    obtain ⟨n0, n1, ne⟩ := rd_fit hg h0 h1 (i := 0) (by omega) (by omega)
    have tk : l.take (i + 1) = l.take i ++ [rd l (i : Int)] := by rw [List.take_succ_eq_append_getElem (by omega), rd_at l i (by omega)]
    refine Ev.step (fun k => by simp only [spec_YearsAlikeSums.l1]; rw [if_pos (by omega), if_pos (by omega), if_pos (by omega), ew, me, ne]) ?_
    cases c with
    | true =>
      refine Ev.if_pos rfl (Ev.bind (kiDigits_f _ m0 (by omega)) (Ev.if_pos (by omega) (Ev.bind (kiDigits_f _ n0 (by omega)) ?_)))
      refine ih (i + 1) _ (by omega) ?_
      rw [tk, List.all_append, ← hc, Bool.beq_eq_decide_eq]
      simp
    | false =>
      refine Ev.if_neg (by simp) (ih (i + 1) false (by omega) ?_)
      rw [tk, List.all_append, ← hc]; rfl
theorem specYA_f (l : List Int) : Ev (fun k => spec_YearsAlikeSums.f k l) (yaOf l) := by
  refine Ev.congr (fun k => by unfold spec_YearsAlikeSums.f; rfl) (Ev.bind (agGood_f l) ?_)
  cases hg : goodB l with
  | true =>
    have hb := range_bounds hg
    have hl := good_len hg
    have hn := nY_eq hg
    refine Ev.if_pos rfl (Ev.bind (agRange_f hg) (Ev.same (loop_all (g := fun k acc y => spec_YearsAlikeSums.l0 k l acc (hiY l) y) (q := yaQ l) (lo := loY l) (hi := hiY l) (fun z => (z, true)) (fun acc y r h0 h1 h2 h3 => ?_) (fun acc => ?_) (nY l) (loY l) [] (Int.le_refl _) hn.1 (by simp; omega)) (by unfold yaOf; rw [if_pos hg]; simp)))
    · refine Ev.step (fun k => by simp only [spec_YearsAlikeSums.l0]; rw [if_pos h1]; rfl) (specYA_l l hg y h0 h1 acc h2 r h3 l.length 0 true (by omega) (by simp))
    · exact Ev.step (f := fun _ => some (acc, true)) (fun k => by simp only [spec_YearsAlikeSums.l0]; rw [if_neg (by omega)]) (Ev.now _)
  | false => exact Ev.if_neg (by simp) (Ev.same (Ev.now _) (by unfold yaOf; rw [if_neg (by rw [hg]; simp)]))
/-- Whether some number of a list has another sum of digits than the first one. -/
theorem anyO_ev (f : Nat → Int → Option Bool) (g : Int → Bool) (m : List Int) (h : ∀ x ∈ m, Ev (fun k => f k x) (g x)) : Ev (fun k => anyO (f k) m) (m.any g) := by
  induction m with
  | nil => exact Ev.now _
  | cons x xs ih =>
    refine Ev.bind (h x (by simp)) ?_
    cases hx : g x with
    | true => exact Ev.if_pos rfl (Ev.same (Ev.now _) (by simp [hx]))
    | false => exact Ev.if_neg (by simp) (Ev.same (ih (fun z hz => h z (by simp [hz]))) (by simp [hx]))
theorem implYA_f (l : List Int) : Ev (fun k => impl_YearsAlikeSums.f k l) (yaOf l) := by
  refine Ev.congr (fun k => by unfold impl_YearsAlikeSums.f; rfl) (Ev.got (areAges_f l) ?_)
  cases hg : goodB l with
  | true =>
    have hl := good_len hg
    refine Ev.if_pos rfl (Ev.bind (allY_f _ (yaQ l) hg (fun y h0 h1 => ?_)) (Ev.same (Ev.now _) (by unfold yaOf; rw [if_pos hg])))
    obtain ⟨n0, n1, ne⟩ := rd_fit hg h0 h1 (i := 0) (by omega) (by omega)
    have e0 : rd (inY l y) 0 = rd l 0 + y := by rw [inY_rd (by omega) (by omega), ne]
    refine Ev.if_pos (by rw [inY_length]; omega) (Ev.bind (anyO_ev _ (fun x => decide (ds 5 x ≠ ds 5 (rd l 0 + y))) (inY l y) (fun x hx => ?_)) (Ev.same (Ev.now _) ?_))
    · have hx2 : 0 ≤ x ∧ x ≤ 120 := by
        rw [inY_fit hg h0 h1] at hx
        obtain ⟨z, hz, rfl⟩ := List.mem_map.mp hx
        exact (fit_iff hl.1 y).mp ⟨h0, h1⟩ z hz
      refine Ev.bind (digitSum_f x hx2.1 (by omega)) ?_
      rw [e0]
      refine Ev.bind (digitSum_f _ n0 (by omega)) (Ev.same (Ev.now _) ?_)
      by_cases q : ds 5 x = ds 5 (rd l 0 + y) <;> simp [q]
    · rw [inY_fit hg h0 h1]
      unfold yaQ
      rw [List.any_map]
      generalize ds 5 (rd l 0 + y) = t
      clear e0 ne n0 n1 h0 h1 hl hg
      induction l with
      | nil => rfl
      | cons x xs ih =>
        simp only [List.any_cons, List.all_cons, Function.comp, Bool.not_or] at ih ⊢
        rw [ih]
        congr 1
        by_cases q : ds 5 (x + y) = t <;> simp [q]
  | false => exact Ev.if_neg (by simp) (Ev.same (Ev.now _) (by unfold yaOf; rw [if_neg (by rw [hg]; simp)]))

/-! #### big -/
theorem big_f (l0 l1 : List Int) (h0 : (l0.length : Int) ≤ 140737488351232) (h1 : (l1.length : Int) ≤ 140737488351232) : ∃ b, laws_big.f l0 l1 = some b := by
  unfold laws_big.f
  by_cases h : (l0.length : Int) > 1048576
  · exact ⟨true, if_pos h⟩
  · exact ⟨_, if_neg h⟩

/-! #### birth -/
theorem kiBirth_f (a : Int) : spec_kiBirth.f a = some (decide (0 ≤ a ∧ a ≤ 2900)) := by simp only [spec_kiBirth.f, l1In_f, Option.bind_some]
theorem isBirth_f (a : Int) : impl_isBirth.f a = some (decide (0 ≤ a ∧ a ≤ 2900)) := by simp only [impl_isBirth.f, between_f, Option.bind_some]

/-! #### digityears -/
theorem specDY_l (b : Int) (d : Nat) : ∀ (i : Int) (acc : List Int), 0 ≤ i → i + d = 121 → 0 ≤ b → b ≤ 2900 → acc.length + d ≤ 1000 →
    Ev (fun k => spec_DigitYears.l0 k b acc i) (acc ++ coll (fun j => decide (ds 5 (b + j) = j)) (fun j => b + j) i d, true) := by
  induction d with
  | zero =>
    intro i acc h0 h1 h2 h3 h5
    exact Ev.step (f := fun _ => some (acc, true)) (fun k => by simp only [spec_DigitYears.l0]; rw [if_neg (by omega)]) (Ev.same (Ev.now _) (by simp [coll]))
  | succ d ih =>
    intro i acc h0 h1 h2 h3 h5
    have e : wrap64 (b + i) = b + i := w64 (by omega) (by omega)
    have ew : wrap64 (i + 1) = i + 1 := w64 (by omega) (by omega)
    refine Ev.step (fun k => by simp only [spec_DigitYears.l0]; rw [if_pos (by omega), e, ew]) (Ev.bind (kiDigits_f (b + i) (by omega) (by omega)) ?_)
    by_cases h : ds 5 (b + i) = i
    · exact Ev.if_pos h (Ev.if_pos (by omega) (Ev.same (ih (i + 1) (acc ++ [b + i]) (by omega) (by omega) h2 h3 (by simp; omega)) (by simp [coll, h])))
    · exact Ev.if_neg h (Ev.same (ih (i + 1) acc (by omega) (by omega) h2 h3 (by omega)) (by simp [coll, h]))
theorem implDY_l (b : Int) (d : Nat) : ∀ (i : Int) (acc : List Int), 0 ≤ i → i + d = 121 → 0 ≤ b → b ≤ 2900 → acc.length + d ≤ 1000 →
    Ev (fun k => impl_DigitYears.l0 k b acc i) (acc ++ coll (fun j => decide (ds 5 (b + j) = j)) (fun j => b + j) i d, true) := by
  induction d with
  | zero =>
    intro i acc h0 h1 h2 h3 h5
    exact Ev.step (f := fun _ => some (acc, true)) (fun k => by simp only [impl_DigitYears.l0]; rw [if_neg (by omega)]) (Ev.same (Ev.now _) (by simp [coll]))
  | succ d ih =>
    intro i acc h0 h1 h2 h3 h5
    have e : wrap64 (b + i) = b + i := w64 (by omega) (by omega)
    have ew : wrap64 (i + 1) = i + 1 := w64 (by omega) (by omega)
    refine Ev.step (fun k => by simp only [impl_DigitYears.l0]; rw [if_pos (by omega), e, ew]) (Ev.bind (digitSum_f (b + i) (by omega) (by omega)) ?_)
    by_cases h : ds 5 (b + i) = i
    · exact Ev.if_pos h (Ev.if_pos (by omega) (Ev.same (ih (i + 1) (acc ++ [b + i]) (by omega) (by omega) h2 h3 (by simp; omega)) (by simp [coll, h])))
    · exact Ev.if_neg h (Ev.same (ih (i + 1) acc (by omega) (by omega) h2 h3 (by omega)) (by simp [coll, h]))
def dyOf (b : Int) : List Int := coll (fun j => decide (ds 5 (b + j) = j)) (fun j => b + j) 0 121
theorem dyOf_length (b : Int) : (dyOf b).length ≤ 1000 := by
  have := coll_length (fun j => decide (ds 5 (b + j) = j)) (fun j => b + j) 121 0
  unfold dyOf
  omega
theorem specDY_f (b : Int) : Ev (fun k => spec_DigitYears.f k b) (if 0 ≤ b ∧ b ≤ 2900 then (dyOf b, true) else ([], false)) := by
  refine Ev.congr (fun k => by unfold spec_DigitYears.f; rfl) (Ev.got (kiBirth_f b) ?_)
  by_cases hb : 0 ≤ b ∧ b ≤ 2900
  · exact Ev.if_pos (by simpa using hb) (Ev.same (specDY_l b 121 0 [] (by omega) (by omega) hb.1 hb.2 (by simp)) (by rw [if_pos hb]; rfl))
  · exact Ev.if_neg (by simpa using hb) (Ev.same (Ev.now _) (by rw [if_neg hb]))
theorem implDY_f (b : Int) : Ev (fun k => impl_DigitYears.f k b) (if 0 ≤ b ∧ b ≤ 2900 then (dyOf b, true) else ([], false)) := by
  refine Ev.congr (fun k => by unfold impl_DigitYears.f; rfl) (Ev.got (isBirth_f b) ?_)
  by_cases hb : 0 ≤ b ∧ b ≤ 2900
  · exact Ev.if_pos (by simpa using hb) (Ev.same (implDY_l b 121 0 [] (by omega) (by omega) hb.1 hb.2 (by simp)) (by rw [if_pos hb]; rfl))
  · exact Ev.if_neg (by simpa using hb) (Ev.same (Ev.now _) (by rw [if_neg hb]))

/-! #### dividesyears -/
def dyP (b : Int) (j : Int) : Bool := decide (1 ≤ j - b ∧ j - b ≤ 120) && decide (Int.tmod j (j - b) = 0)
theorem specDiv_l (b t : Int) (d : Nat) : ∀ (i : Int) (acc : List Int), 0 ≤ i → i + d = t + 1 → t ≤ 3000 → 0 ≤ b → b ≤ 2900 → acc.length + d ≤ 4000 →
    Ev (fun k => spec_DividesYears.l0 k b t acc i) (acc ++ coll (dyP b) (fun j => j) i d, true) := by
  induction d with
  | zero =>
    intro i acc h0 h1 h2 h3 h4 h5
    exact Ev.step (f := fun _ => some (acc, true)) (fun k => by simp only [spec_DividesYears.l0]; rw [if_neg (by omega)]) (Ev.same (Ev.now _) (by simp [coll]))
  | succ d ih =>
    intro i acc h0 h1 h2 h3 h4 h5
    have e : wrap64 (i - b) = i - b := w64 (by omega) (by omega)
    have ew : wrap64 (i + 1) = i + 1 := w64 (by omega) (by omega)
    refine Ev.step (fun k => by simp only [spec_DividesYears.l0]; rw [if_pos (by omega), e, ew]) (Ev.got (l1In_f (i - b) 1 120) ?_)
    by_cases h : 1 ≤ i - b ∧ i - b ≤ 120
    · refine Ev.if_pos (by simpa using h) (Ev.if_neg (by omega) ?_)
      by_cases hm : Int.tmod i (i - b) = 0
      · exact Ev.if_pos hm (Ev.if_pos (by omega) (Ev.same (ih (i + 1) (acc ++ [i]) (by omega) (by omega) h2 h3 h4 (by simp; omega)) (by simp [coll, dyP, h, hm])))
      · exact Ev.if_neg hm (Ev.same (ih (i + 1) acc (by omega) (by omega) h2 h3 h4 (by omega)) (by simp [coll, dyP, hm]))
    · have q : dyP b i = false := by simp only [dyP]; rw [decide_eq_false h]; rfl
      exact Ev.if_neg (by simpa using h) (Ev.same (ih (i + 1) acc (by omega) (by omega) h2 h3 h4 (by omega)) (by simp [coll, q]))
theorem implDiv_l (b t : Int) (d : Nat) : ∀ (i : Int) (acc : List Int), 0 ≤ i → i + d = t + 1 → t ≤ 3000 → 0 ≤ b → b ≤ 2900 → acc.length + d ≤ 4000 →
    Ev (fun k => impl_DividesYears.l0 k b t acc i) (acc ++ coll (dyP b) (fun j => j) i d, true) := by
  induction d with
  | zero =>
    intro i acc h0 h1 h2 h3 h4 h5
    exact Ev.step (f := fun _ => some (acc, true)) (fun k => by simp only [impl_DividesYears.l0]; rw [if_neg (by omega)]) (Ev.same (Ev.now _) (by simp [coll]))
  | succ d ih =>
    intro i acc h0 h1 h2 h3 h4 h5
    have e : wrap64 (i - b) = i - b := w64 (by omega) (by omega)
    have ew : wrap64 (i + 1) = i + 1 := w64 (by omega) (by omega)
    refine Ev.step (fun k => by simp only [impl_DividesYears.l0]; rw [if_pos (by omega), e, ew]) (Ev.got (between_f (i - b) 1 120) ?_)
    by_cases h : 1 ≤ i - b ∧ i - b ≤ 120
    · refine Ev.if_pos (by simpa using h) (Ev.if_neg (by omega) ?_)
      by_cases hm : Int.tmod i (i - b) = 0
      · exact Ev.if_pos hm (Ev.if_pos (by omega) (Ev.same (ih (i + 1) (acc ++ [i]) (by omega) (by omega) h2 h3 h4 (by simp; omega)) (by simp [coll, dyP, h, hm])))
      · exact Ev.if_neg hm (Ev.same (ih (i + 1) acc (by omega) (by omega) h2 h3 h4 (by omega)) (by simp [coll, dyP, hm]))
    · have q : dyP b i = false := by simp only [dyP]; rw [decide_eq_false h]; rfl
      exact Ev.if_neg (by simpa using h) (Ev.same (ih (i + 1) acc (by omega) (by omega) h2 h3 h4 (by omega)) (by simp [coll, q]))
def divOf (b x y : Int) : List Int := coll (dyP b) (fun j => j) x (y + 1 - x).toNat
def divOk (b x y : Int) : Prop := 0 ≤ b ∧ b ≤ 2900 ∧ 0 ≤ x ∧ x ≤ y ∧ y ≤ 3000 ∧ y - x ≤ 120
instance (b x y : Int) : Decidable (divOk b x y) := inferInstanceAs (Decidable (0 ≤ b ∧ b ≤ 2900 ∧ 0 ≤ x ∧ x ≤ y ∧ y ≤ 3000 ∧ y - x ≤ 120))
theorem divOf_length (b x y : Int) (h : divOk b x y) : (divOf b x y).length ≤ 4000 := by
  have := coll_length (dyP b) (fun j => j) (y + 1 - x).toNat x
  unfold divOf
  unfold divOk at h
  omega
theorem specDiv_f (b x y : Int) : Ev (fun k => spec_DividesYears.f k b x y) (if divOk b x y then (divOf b x y, true) else ([], false)) := by
  refine Ev.congr (fun k => by unfold spec_DividesYears.f; rfl) (Ev.got (kiBirth_f b) ?_)
  have bad : ∀ (h : ¬ divOk b x y) (c : Bool) (hc : c = true), Ev (fun k => spec_DividesYears.j0 k b x y c) (if divOk b x y then (divOf b x y, true) else ([], false)) := by
    intro h c hc
    subst hc
    refine Ev.step (f := fun _ => some ([], false)) (fun k => ?_) (Ev.same (Ev.now _) (by rw [if_neg h]))
    simp only [spec_DividesYears.j0, if_true]
  by_cases hb : 0 ≤ b ∧ b ≤ 2900
  · refine Ev.if_pos (by simpa using hb) (Ev.got (l1In_f y 0 3000) ?_)
    by_cases hy : 0 ≤ y ∧ y ≤ 3000
    · refine Ev.if_pos (by simpa using hy) (Ev.got (l1In_f x 0 y) ?_)
      by_cases hx : 0 ≤ x ∧ x ≤ y
      · refine Ev.if_pos (by simpa using hx) ?_
        have e : wrap64 (y - x) = y - x := w64 (by omega) (by omega)
        by_cases hd : y - x ≤ 120
        · have ok : divOk b x y := ⟨hb.1, hb.2, hx.1, hx.2, hy.2, hd⟩
          refine Ev.step (f := fun k => spec_DividesYears.l0 k b y [] x) (fun k => ?_) (Ev.same (specDiv_l b y (y + 1 - x).toNat x [] hx.1 (by omega) hy.2 hb.1 hb.2 (by simp; omega)) (by rw [if_pos ok]; rfl))
          simp only [spec_DividesYears.j0]; rw [if_neg (by rw [e]; simp; omega)]
        · exact bad (by unfold divOk; omega) _ (by rw [e]; simp; omega)
      · exact Ev.if_neg (by simpa using hx) (bad (by unfold divOk; omega) _ rfl)
    · exact Ev.if_neg (by simpa using hy) (bad (by unfold divOk; omega) _ rfl)
  · exact Ev.if_neg (by simpa using hb) (bad (by unfold divOk; omega) _ rfl)
theorem implDiv_f (b x y : Int) : Ev (fun k => impl_DividesYears.f k b x y) (if divOk b x y then (divOf b x y, true) else ([], false)) := by
  refine Ev.congr (fun k => by unfold impl_DividesYears.f; rfl) (Ev.got (isBirth_f b) ?_)
  have bad : ∀ (h : ¬ divOk b x y) (c : Bool) (hc : c = true), Ev (fun k => impl_DividesYears.j0 k b x y c) (if divOk b x y then (divOf b x y, true) else ([], false)) := by
    intro h c hc
    subst hc
    refine Ev.step (f := fun _ => some ([], false)) (fun k => ?_) (Ev.same (Ev.now _) (by rw [if_neg h]))
    simp only [impl_DividesYears.j0, if_true]
  by_cases hb : 0 ≤ b ∧ b ≤ 2900
  · refine Ev.if_pos (by simpa using hb) (Ev.got (between_f x 0 3000) ?_)
    by_cases hx : 0 ≤ x ∧ x ≤ 3000
    · refine Ev.if_pos (by simpa using hx) (Ev.got (between_f y x 3000) ?_)
      by_cases hy : x ≤ y ∧ y ≤ 3000
      · refine Ev.if_pos (by simpa using hy) ?_
        have e : wrap64 (y - x) = y - x := w64 (by omega) (by omega)
        by_cases hd : y - x ≤ 120
        · have ok : divOk b x y := ⟨hb.1, hb.2, hx.1, hy.1, hy.2, hd⟩
          refine Ev.step (f := fun k => impl_DividesYears.l0 k b y [] x) (fun k => ?_) (Ev.same (implDiv_l b y (y + 1 - x).toNat x [] hx.1 (by omega) hy.2 hb.1 hb.2 (by simp; omega)) (by rw [if_pos ok]; rfl))
          simp only [impl_DividesYears.j0]; rw [if_neg (by rw [e]; simp; omega)]
        · exact bad (by unfold divOk; omega) _ (by rw [e]; simp; omega)
      · exact Ev.if_neg (by simpa using hy) (bad (by unfold divOk; omega) _ rfl)
    · exact Ev.if_neg (by simpa using hx) (bad (by unfold divOk; omega) _ rfl)
  · exact Ev.if_neg (by simpa using hb) (bad (by unfold divOk; omega) _ rfl)

/-! #### draws -/
/-! ### what is drawn: that it is drawn, and how long it may be -/
def Byt (s : List Int) : Prop := ∀ x ∈ s, 0 ≤ x ∧ x ≤ 255
theorem byt_of {s : List Int} (h : ∀ x ∈ s, (Lit.int .u8 x).wf = true) : Byt s := fun x hx => by
  have h2 := h x hx
  simp [Lit.wf] at h2
  have h3 : (0 : Int) ≤ x ∧ x ≤ 255 := by simpa [IntKind.min, IntKind.max, IntKind.bits, IntKind.signed] using h2
  exact h3
theorem and255 (y : Int) : 0 ≤ Go.bits .and .u64 (IntKind.u64.wrap y / 1099511627776) 255 ∧ Go.bits .and .u64 (IntKind.u64.wrap y / 1099511627776) 255 ≤ 255 := by
  have hw := IntKind.wrap_u64 y
  have hx0 : 0 ≤ IntKind.u64.wrap y / 1099511627776 := by omega
  have hx1 : IntKind.u64.wrap y / 1099511627776 < 2 ^ 64 := by omega
  have h := bits_mask .u64 64 (by decide) (fun n h0 h1 => by have := IntKind.wrap_u64 n; omega) 8 (by decide) _ hx0 hx1
  have h2 : Go.bits .and .u64 (IntKind.u64.wrap y / 1099511627776) 255 = IntKind.u64.wrap y / 1099511627776 % 256 := h
  rw [h2]
  omega
theorem next_f {s : List Int} (hs : Byt s) {a : Int} (u : Int) (h0 : 0 ≤ a) (h1 : a ≤ 4611686018427387904) : ∃ r u', spec_l1Cur_next.f s a u = some (r, a + 1, u') ∧ 0 ≤ r ∧ r ≤ 255 := by
  have ew : wrap64 (a + 1) = a + 1 := w64 (by omega) (by omega)
  unfold spec_l1Cur_next.f
  rw [ew]
  by_cases h : a < (s.length : Int)
  · rw [if_pos h, if_pos h0, if_pos (show a + 1 ≤ (s.length : Int) by omega)]
    have hb := hs _ (rd_mem h0 h)
    exact ⟨_, _, rfl, by rw [w64 (by omega) (by omega)]; exact hb.1, by rw [w64 (by omega) (by omega)]; exact hb.2⟩
  · rw [if_neg h, if_neg (show ¬ a + 1 ≤ (s.length : Int) by omega)]
    have hb := and255 (IntKind.u64.wrap (IntKind.u64.wrap (u * 6364136223846793005) + 0) + 1442695040888963407)
    exact ⟨_, _, rfl, by rw [w64 (by omega) (by omega)]; exact hb.1, by rw [w64 (by omega) (by omega)]; exact hb.2⟩
theorem tmod_lt {x n : Int} (h0 : 0 ≤ x) (hn : 0 < n) : 0 ≤ Int.tmod x n ∧ Int.tmod x n < n := by
  rw [Int.tmod_eq_emod_of_nonneg h0]
  exact ⟨Int.emod_nonneg x (by omega), Int.emod_lt_of_pos x hn⟩
theorem pick_f {s : List Int} (hs : Byt s) {a : Int} (u n : Int) (h0 : 0 ≤ a) (h1 : a ≤ 1000000000) : ∃ r a' u', spec_l1Cur_pick.f s a u n = some (r, a', u') ∧ 0 ≤ r ∧ (r < n ∨ r = 0) ∧ a ≤ a' ∧ a' ≤ a + 2 := by
  unfold spec_l1Cur_pick.f
  by_cases hn : n ≤ 1
  · rw [if_pos hn]
    exact ⟨0, a, u, rfl, by omega, .inr rfl, by omega, by omega⟩
  · rw [if_neg hn]
    obtain ⟨r, u1, e1, r0, r1⟩ := next_f hs u h0 (by omega)
    rw [e1]
    simp only [Option.bind_some]
    by_cases hb : n > 200
    · rw [if_pos hb]
      obtain ⟨q, u2, e2, q0, q1⟩ := next_f hs u1 (show 0 ≤ a + 1 by omega) (by omega)
      rw [e2]
      simp only [Option.bind_some]
      rw [if_neg (show ¬ n = 0 by omega), w64 (show -9223372036854775808 ≤ r * 256 by omega) (by omega), w64 (by omega) (by omega)]
      have ht := tmod_lt (show 0 ≤ r * 256 + q by omega) (show 0 < n by omega)
      exact ⟨_, _, _, rfl, ht.1, .inl ht.2, by omega, by omega⟩
    · rw [if_neg hb, if_neg (show ¬ n = 0 by omega)]
      have ht := tmod_lt r0 (show 0 < n by omega)
      exact ⟨_, _, _, rfl, ht.1, .inl ht.2, by omega, by omega⟩
theorem among_f {s : List Int} (hs : Byt s) {a : Int} (u : Int) (l : List Int) (hl : 0 < l.length) (h0 : 0 ≤ a) (h1 : a ≤ 1000000000) : ∃ r a' u', spec_l1Cur_among.f s a u l = some (r, a', u') ∧ r ∈ l ∧ a ≤ a' ∧ a' ≤ a + 2 := by
  unfold spec_l1Cur_among.f
  obtain ⟨r, a', u', e, r0, r1, b0, b1⟩ := pick_f hs u (l.length : Int) h0 h1
  rw [e]
  simp only [Option.bind_some]
  have hr : r < (l.length : Int) := by omega
  rw [if_pos r0, if_pos hr]
  exact ⟨_, _, _, rfl, rd_mem r0 hr, b0, b1⟩
theorem sureAges_l {s : List Int} (hs : Byt s) (d : Nat) : ∀ (acc : List Int) (a u : Int), d ≤ 10 → acc.length + d ≤ 100 → 0 ≤ a → a + 2 * d ≤ 1000000 → ∃ l a' u', Ev (fun k => spec_l1Cur_sureAges.l0 k acc (d : Int) s a u) (l, a', u') ∧ l.length = acc.length + d ∧ a ≤ a' ∧ a' ≤ a + 2 * d := by
  induction d with
  | zero =>
    intro acc a u _ _ h0 h1
    exact ⟨acc, a, u, Ev.step (f := fun _ => some (acc, a, u)) (fun k => by simp only [spec_l1Cur_sureAges.l0]; rw [if_neg (by omega)]) (Ev.now _), rfl, by omega, by omega⟩
  | succ d ih =>
    intro acc a u hd ha h0 h1
    obtain ⟨r, a1, u1, e, _, b0, b1⟩ := among_f hs u [0, 1, 3, 5, 9, 12, 17, 25, 33, 40, 64, 90] (by decide) h0 (by omega)
    obtain ⟨l, a2, u2, h, hl, c0, c1⟩ := ih (acc ++ [r]) a1 u1 (by omega) (by simp; omega) (by omega) (by push_cast at h1; omega)
    have ew : wrap64 (((d + 1 : Nat) : Int) - 1) = (d : Int) := by rw [w64 (by omega) (by omega)]; omega
    refine ⟨l, a2, u2, Ev.step (fun k => by simp only [spec_l1Cur_sureAges.l0]; rw [if_pos (show ((d + 1 : Nat) : Int) > 0 by omega), ew]) (Ev.got e (Ev.if_pos (show acc.length < 17592186044416 by omega) h)), ?_, by omega, by omega⟩
    rw [hl]; simp; omega
theorem sureAges_f {s : List Int} (hs : Byt s) {a : Int} (u : Int) (h0 : 0 ≤ a) (h1 : a ≤ 1000) : ∃ l a' u', Ev (fun k => spec_l1Cur_sureAges.f k s a u) (l, a', u') ∧ 1 ≤ l.length ∧ l.length ≤ 4 ∧ a ≤ a' ∧ a' ≤ a + 12 := by
  obtain ⟨r, a1, u1, e, r0, r1, b0, b1⟩ := pick_f hs u 4 h0 (by omega)
  obtain ⟨n, rfl⟩ := Int.eq_ofNat_of_zero_le r0
  obtain ⟨l, a2, u2, h, hl, c0, c1⟩ := sureAges_l hs (n + 1) [] a1 u1 (by omega) (by simp; omega) (by omega) (by omega)
  have ew : wrap64 (1 + (n : Int)) = ((n + 1 : Nat) : Int) := by rw [w64 (by omega) (by omega)]; omega
  refine ⟨l, a2, u2, Ev.congr (fun k => by unfold spec_l1Cur_sureAges.f; rfl) (Ev.got e (by simp only [ew]; exact h)), ?_, ?_, by omega, by omega⟩ <;> · simp at hl; omega
theorem ages_l {s : List Int} (hs : Byt s) (d : Nat) : ∀ (acc : List Int) (a u : Int), acc.length + d = 10 → 0 ≤ a → a + 4 * d ≤ 1000000 → ∃ l a' u', Ev (fun k => spec_l1Cur_ages.l0 k acc s a u) (l, a', u') ∧ l.length ≤ 10 ∧ a ≤ a' ∧ a' ≤ a + 4 * d + 2 := by
  induction d with
  | zero =>
    intro acc a u ha h0 h1
    obtain ⟨r, a1, u1, e, r0, r1, b0, b1⟩ := pick_f hs u 2 h0 (by omega)
    have ew : wrap64 (8 + r) = 8 + r := w64 (by omega) (by omega)
    exact ⟨acc, a1, u1, Ev.step (fun k => by simp only [spec_l1Cur_ages.l0]; rfl) (Ev.got e (Ev.if_neg (show ¬ (acc.length : Int) < wrap64 (8 + r) by rw [ew]; omega) (Ev.now _))), by omega, by omega, by omega⟩
  | succ d ih =>
    intro acc a u ha h0 h1
    obtain ⟨r, a1, u1, e, r0, r1, b0, b1⟩ := pick_f hs u 2 h0 (by omega)
    have ew : wrap64 (8 + r) = 8 + r := w64 (by omega) (by omega)
    by_cases hc : (acc.length : Int) < 8 + r
    · obtain ⟨q, a2, u2, e2, q0, q1, c0, c1⟩ := pick_f hs u1 50 (show 0 ≤ a1 by omega) (by omega)
      obtain ⟨l, a3, u3, h, hl, d0, d1⟩ := ih (acc ++ [q]) a2 u2 (by simp; omega) (by omega) (by omega)
      exact ⟨l, a3, u3, Ev.step (fun k => by simp only [spec_l1Cur_ages.l0]; rfl) (Ev.got e (Ev.if_pos (show (acc.length : Int) < wrap64 (8 + r) by rw [ew]; omega) (Ev.got e2 (Ev.if_pos (show acc.length < 17592186044416 by omega) h)))), hl, by omega, by omega⟩
    · exact ⟨acc, a1, u1, Ev.step (fun k => by simp only [spec_l1Cur_ages.l0]; rfl) (Ev.got e (Ev.if_neg (show ¬ (acc.length : Int) < wrap64 (8 + r) by rw [ew]; omega) (Ev.now _))), by omega, by omega, by omega⟩
theorem ages_f {s : List Int} (hs : Byt s) {a : Int} (u : Int) (h0 : 0 ≤ a) (h1 : a ≤ 500) : ∃ l a' u', Ev (fun k => spec_l1Cur_ages.f k s a u) (l, a', u') ∧ l.length ≤ 10 ∧ a ≤ a' ∧ a' ≤ a + 100 := by
  obtain ⟨l1, a1, u1, e1, l1a, l1b, b0, b1⟩ := sureAges_f hs u h0 (by omega)
  obtain ⟨r, a2, u2, e2, r0, r1, c0, c1⟩ := pick_f hs u1 14 (show 0 ≤ a1 by omega) (by omega)
  have go : ∀ (l : List Int) (a' u' : Int), Ev (fun k => if r = 0 then (some (([] : List Int), a2, u2)) else (if r = 1 then ((spec_l1Cur_among.f s a2 u2 (([(-1), 120, 121, 4611686018427387904] : List Int))).bind fun bt135 => (if 0 < (l1.length : Int) then (some ((l1.set (0 : Int).toNat bt135.1), bt135.2.1, bt135.2.2)) else (none))) else (if r = 2 then (spec_l1Cur_ages.l0 k l1 s a2 u2) else (some (l1, a2, u2))))) (l, a', u') → Ev (fun k => spec_l1Cur_ages.f k s a u) (l, a', u') :=
    fun l a' u' h => Ev.congr (fun k => by unfold spec_l1Cur_ages.f; rfl) (Ev.bind e1 (Ev.got e2 h))
  by_cases k0 : r = 0
  · exact ⟨[], a2, u2, go _ _ _ (Ev.if_pos k0 (Ev.now _)), by simp, by omega, by omega⟩
  · by_cases k1 : r = 1
    · obtain ⟨q, a3, u3, e3, _, d0, d1⟩ := among_f hs u2 [(-1), 120, 121, 4611686018427387904] (by decide) (show 0 ≤ a2 by omega) (by omega)
      exact ⟨l1.set (0 : Int).toNat q, a3, u3, go _ _ _ (Ev.if_neg k0 (Ev.if_pos k1 (Ev.got e3 (Ev.if_pos (by omega) (Ev.now _))))), by simp; omega, by omega, by omega⟩
    · by_cases k2 : r = 2
      · obtain ⟨l, a3, u3, h, hl, d0, d1⟩ := ages_l hs (10 - l1.length) l1 a2 u2 (by omega) (by omega) (by omega)
        exact ⟨l, a3, u3, go _ _ _ (Ev.if_neg k0 (Ev.if_neg k1 (Ev.if_pos k2 h))), hl, by omega, by omega⟩
      · exact ⟨l1, a2, u2, go _ _ _ (Ev.if_neg k0 (Ev.if_neg k1 (Ev.if_neg k2 (Ev.now _)))), by omega, by omega, by omega⟩

/-! #### square -/
/-! ### the age whose square is the year -/
def sq (b : Int) : Int → Nat → Int
  | _, 0 => -1
  | i, d + 1 => if i * i - i = b then i else sq b (i + 1) d
theorem sq_some (b : Int) (d : Nat) : ∀ i, 0 ≤ i → (sq b i d < 0 ∧ sq b i d = -1) ∨ (i ≤ sq b i d ∧ sq b i d * sq b i d - sq b i d = b) := by
  induction d with
  | zero => intro i _; simp [sq]
  | succ d ih =>
    intro i hi
    by_cases h : i * i - i = b
    · have q : sq b i (d + 1) = i := by simp only [sq]; rw [if_pos h]
      rw [q]
      exact .inr ⟨Int.le_refl _, h⟩
    · have q : sq b i (d + 1) = sq b (i + 1) d := by simp only [sq]; rw [if_neg h]
      rw [q]
      rcases ih (i + 1) (by omega) with ⟨h1, h2⟩ | ⟨h1, h2⟩
      · exact .inl ⟨h1, h2⟩
      · exact .inr ⟨by omega, h2⟩
theorem sq_wrap (i : Int) (h0 : 2 ≤ i) (h1 : i ≤ 120) : wrap64 (wrap64 (i * i) - i) = i * i - i := by
  have a : 0 ≤ i * i := Int.mul_nonneg (by omega) (by omega)
  have b : i * i ≤ 120 * 120 := Int.mul_le_mul h1 h1 (by omega) (by omega)
  rw [w64 (x := i * i) (by omega) (by omega), w64 (by omega) (by omega)]
theorem kiSquare_l (b : Int) (d : Nat) : ∀ (i : Int), 2 ≤ i → i + d = 121 → Ev (fun k => spec_kiSquare.l0 k b i) (sq b i d) := by
  induction d with
  | zero =>
    intro i h0 h1
    exact Ev.step (f := fun _ => some (-1)) (fun k => by simp only [spec_kiSquare.l0]; rw [if_neg (by omega)]) (Ev.now _)
  | succ d ih =>
    intro i h0 h1
    have e := sq_wrap i h0 (by omega)
    have ew : wrap64 (i + 1) = i + 1 := w64 (by omega) (by omega)
    by_cases h : i * i - i = b
    · refine Ev.step (f := fun _ => some i) (fun k => ?_) (Ev.same (Ev.now _) (by simp only [sq]; rw [if_pos h]))
      simp only [spec_kiSquare.l0]; rw [if_pos (by omega), e, if_pos h]
    · refine Ev.step (f := fun k => spec_kiSquare.l0 k b (i + 1)) (fun k => ?_) (Ev.same (ih (i + 1) (by omega) (by omega)) (by simp only [sq]; rw [if_neg h]))
      simp only [spec_kiSquare.l0]; rw [if_pos (by omega), e, if_neg h, ew]
theorem kiSquare_f (b : Int) : Ev (fun k => spec_kiSquare.f k b) (sq b 2 119) := kiSquare_l b 119 2 (by omega) (by omega)

/-! #### implsquare -/
theorem implSquare_l (b : Int) (d : Nat) : ∀ (i : Int), 2 ≤ i → i + d = 121 → Ev (fun k => impl_SquareYearOf.l0 k b i) (if 0 ≤ sq b i d then (sq b i d, true) else (0, false)) := by
  induction d with
  | zero =>
    intro i h0 h1
    exact Ev.step (f := fun _ => some (0, false)) (fun k => by simp only [impl_SquareYearOf.l0]; rw [if_neg (by omega)]) (Ev.same (Ev.now _) (by simp [sq]))
  | succ d ih =>
    intro i h0 h1
    have e := sq_wrap i h0 (by omega)
    have ew : wrap64 (i + 1) = i + 1 := w64 (by omega) (by omega)
    by_cases h : i * i - i = b
    · refine Ev.step (f := fun _ => some (i, true)) (fun k => ?_) (Ev.same (Ev.now _) ?_)
      · simp only [impl_SquareYearOf.l0]; rw [if_pos (by omega), e, if_pos h]
      · have q : sq b i (d + 1) = i := by simp only [sq]; rw [if_pos h]
        simp only [q]; rw [if_pos (by omega)]
    · have q : sq b i (d + 1) = sq b (i + 1) d := by simp only [sq]; rw [if_neg h]
      refine Ev.step (f := fun k => impl_SquareYearOf.l0 k b (i + 1)) (fun k => ?_) (Ev.same (ih (i + 1) (by omega) (by omega)) (by simp only [q]))
      simp only [impl_SquareYearOf.l0]; rw [if_pos (by omega), e, if_neg h, ew]
theorem implSquareYearOf_f (b : Int) : Ev (fun k => impl_SquareYearOf.f k b) (if 0 ≤ b ∧ b ≤ 2900 ∧ 0 ≤ sq b 2 119 then (sq b 2 119, true) else (0, false)) := by
  refine Ev.congr (fun k => by unfold impl_SquareYearOf.f; rfl) (Ev.got (isBirth_f b) ?_)
  by_cases hb : 0 ≤ b ∧ b ≤ 2900
  · refine Ev.if_pos (by simpa using hb) (Ev.same (implSquare_l b 119 2 (by omega) (by omega)) ?_)
    by_cases hs : 0 ≤ sq b 2 119
    · rw [if_pos hs, if_pos ⟨hb.1, hb.2, hs⟩]
    · rw [if_neg hs, if_neg (fun h => hs h.2.2)]
  · exact Ev.if_neg (by simpa using hb) (Ev.same (Ev.now _) (by rw [if_neg (by omega)]))

/-! #### qlaws -/
/-! ### the laws' own looks at lists: same, rising, held -/
theorem qSame_l (l : List Int) (hb : l.length ≤ 1048576) (d : Nat) : ∀ (i : Nat), i + d = l.length → Ev (fun k => laws_qSame.l0 k l l (l.length : Int) (i : Int)) true := by
  induction d with
  | zero =>
    intro i hi
    exact Ev.step (f := fun _ => some true) (fun k => by simp only [laws_qSame.l0]; rw [if_neg (by omega)]) (Ev.now _)
  | succ d ih =>
    intro i hi
    have ew : wrap64 ((i : Int) + 1) = ((i + 1 : Nat) : Int) := by rw [w64 (by omega) (by omega)]; omega
    exact Ev.step (f := fun k => laws_qSame.l0 k l l (l.length : Int) ((i + 1 : Nat) : Int)) (fun k => by simp only [laws_qSame.l0]; rw [if_pos (by omega), if_pos (by omega), if_pos (by omega), if_pos (by omega), if_pos trivial, ew]) (ih (i + 1) (by omega))
theorem qSame_f (l : List Int) (hb : l.length ≤ 1048576) : Ev (fun k => laws_qSame.f k l l) true :=
  Ev.congr (fun k => by unfold laws_qSame.f; rfl) (Ev.if_pos rfl (qSame_l l hb l.length 0 (by omega)))
theorem qRises_l (l : List Int) (hp : l.Pairwise (· < ·)) (hb : l.length ≤ 1048576) (d : Nat) : ∀ (i : Nat), 1 ≤ i → i + d = max l.length 1 → Ev (fun k => laws_qRises.l0 k l (i : Int)) true := by
  induction d with
  | zero =>
    intro i h1 hi
    exact Ev.step (f := fun _ => some true) (fun k => by simp only [laws_qRises.l0]; rw [if_neg (by omega)]) (Ev.now _)
  | succ d ih =>
    intro i h1 hi
    have ew : wrap64 ((i : Int) + 1) = ((i + 1 : Nat) : Int) := by rw [w64 (by omega) (by omega)]; omega
    have ew2 : wrap64 ((i : Int) - 1) = ((i - 1 : Nat) : Int) := by rw [w64 (by omega) (by omega)]; omega
    have hlt : ¬ rd l ((i - 1 : Nat) : Int) ≥ rd l (i : Int) := by
      rw [rd_at l (i - 1) (by omega), rd_at l i (by omega)]
      have := List.pairwise_iff_getElem.mp hp (i - 1) i (by omega) (by omega) (by omega)
      omega
    refine Ev.step (f := fun k => laws_qRises.l0 k l ((i + 1 : Nat) : Int)) (fun k => ?_) (ih (i + 1) (by omega) (by omega))
    simp only [laws_qRises.l0]
    rw [if_pos (by omega), ew2, if_pos (by omega), if_pos (by omega), if_pos (by omega), if_neg hlt, ew]
theorem qRises_f (l : List Int) (hp : l.Pairwise (· < ·)) (hb : l.length ≤ 1048576) : Ev (fun k => laws_qRises.f k l) true :=
  Ev.congr (fun k => by unfold laws_qRises.f; rfl) (qRises_l l hp hb (max l.length 1 - 1) 1 (by omega) (by omega))
theorem qHas_l (l : List Int) (n : Int) (hb : l.length ≤ 1048576) (d : Nat) : ∀ (i : Nat), i + d = l.length → Ev (fun k => laws_qHas.l0 k n l (l.length : Int) (i : Int)) (decide (n ∈ l.drop i)) := by
  induction d with
  | zero =>
    intro i hi
    exact Ev.step (f := fun _ => some false) (fun k => by simp only [laws_qHas.l0]; rw [if_neg (by omega)]) (Ev.same (Ev.now _) (by rw [List.drop_of_length_le (by omega)]; simp))
  | succ d ih =>
    intro i hi
    have ew : wrap64 ((i : Int) + 1) = ((i + 1 : Nat) : Int) := by rw [w64 (by omega) (by omega)]; omega
    rw [drop_rd l i (by omega)]
    refine Ev.step (f := fun k => if rd l (i : Int) = n then some true else laws_qHas.l0 k n l (l.length : Int) ((i + 1 : Nat) : Int)) (fun k => ?_) ?_
    · simp only [laws_qHas.l0]
      rw [if_pos (by omega), if_pos (by omega), if_pos (by omega), ew]
    · by_cases h : rd l (i : Int) = n
      · exact Ev.if_pos h (Ev.same (Ev.now _) (by simp [h]))
      · refine Ev.if_neg h (Ev.same (ih (i + 1) (by omega)) ?_)
        have h2 : ¬ n = rd l (i : Int) := fun e => h e.symm
        simp [h2]
theorem qHas_f (l : List Int) (n : Int) (hb : l.length ≤ 1048576) : Ev (fun k => laws_qHas.f k l n) (decide (n ∈ l)) :=
  Ev.congr (fun k => by unfold laws_qHas.f; rfl) (Ev.same (qHas_l l n hb l.length 0 (by omega)) (by simp))
theorem coll_mem (q : Int → Bool) (f : Int → Int) (x : Int) (d : Nat) : ∀ y, x ∈ coll q f y d ↔ ∃ j, y ≤ j ∧ j < y + d ∧ q j = true ∧ x = f j := by
  induction d with
  | zero => intro y; simp only [coll, List.not_mem_nil, false_iff]; rintro ⟨j, h1, h2, _⟩; omega
  | succ d ih =>
    intro y
    by_cases hq : q y = true
    · simp only [coll, hq, if_true, List.mem_cons, ih]
      constructor
      · rintro (rfl | ⟨j, h1, h2, h3, h4⟩)
        · exact ⟨y, by omega, by omega, hq, rfl⟩
        · exact ⟨j, by omega, by omega, h3, h4⟩
      · rintro ⟨j, h1, h2, h3, h4⟩
        by_cases hj : j = y
        · subst hj; exact .inl h4
        · exact .inr ⟨j, by omega, by omega, h3, h4⟩
    · rw [coll, if_neg hq, ih]
      constructor
      · rintro ⟨j, h1, h2, h3, h4⟩; exact ⟨j, by omega, by omega, h3, h4⟩
      · rintro ⟨j, h1, h2, h3, h4⟩
        by_cases hj : j = y
        · subst hj; exact absurd h3 hq
        · exact ⟨j, by omega, by omega, h3, h4⟩
theorem coll_rises (q : Int → Bool) (f : Int → Int) (hf : ∀ a b, a < b → f a < f b) (d : Nat) : ∀ y, (coll q f y d).Pairwise (· < ·) := by
  induction d with
  | zero => intro y; simp [coll]
  | succ d ih =>
    intro y
    by_cases hq : q y = true
    · rw [coll, if_pos hq]
      refine List.pairwise_cons.mpr ⟨fun x hx => ?_, ih (y + 1)⟩
      obtain ⟨j, h1, h2, h3, rfl⟩ := (coll_mem q f x d (y + 1)).mp hx
      exact hf y j (by omega)
    · rw [coll, if_neg hq]; exact ih (y + 1)
theorem coll_has (q : Int → Bool) (x y : Int) (d : Nat) (h0 : y ≤ x) (h1 : x < y + d) : decide (x ∈ coll q (fun j => j) y d) = q x := by
  cases hq : q x with
  | true => exact decide_eq_true ((coll_mem q _ x d y).mpr ⟨x, h0, h1, hq, rfl⟩)
  | false => exact decide_eq_false fun h => by obtain ⟨j, _, _, h3, rfl⟩ := (coll_mem q _ x d y).mp h; rw [hq] at h3; cases h3

/-! #### specsquare -/
theorem specSquareYearOf_f (b : Int) : Ev (fun k => spec_SquareYearOf.f k b) (if 0 ≤ b ∧ b ≤ 2900 ∧ 0 ≤ sq b 2 119 then (sq b 2 119, true) else (0, false)) := by
  refine Ev.congr (fun k => by unfold spec_SquareYearOf.f; rfl) (Ev.got (kiBirth_f b) ?_)
  by_cases hb : 0 ≤ b ∧ b ≤ 2900
  · refine Ev.if_pos (by simpa using hb) (Ev.bind (kiSquare_f b) ?_)
    by_cases hs : sq b 2 119 < 0
    · exact Ev.if_pos hs (Ev.same (Ev.now _) (by rw [if_neg (by omega)]))
    · exact Ev.if_neg hs (Ev.same (Ev.now _) (by rw [if_pos (by omega)]))
  · exact Ev.if_neg (by simpa using hb) (Ev.same (Ev.now _) (by rw [if_neg (by omega)]))

/-! #### squarebirths -/
theorem specSB_l (t : Int) (d : Nat) : ∀ (i : Int) (acc : List Int), 0 ≤ i → i + d = t + 1 → t ≤ 2900 → acc.length + d ≤ 4000 →
    Ev (fun k => spec_SquareBirths.l0 k t acc i) (acc ++ coll (fun j => decide (0 ≤ sq j 2 119)) (fun j => j) i d, true) := by
  induction d with
  | zero =>
    intro i acc h0 h1 h2 h5
    exact Ev.step (f := fun _ => some (acc, true)) (fun k => by simp only [spec_SquareBirths.l0]; rw [if_neg (by omega)]) (Ev.same (Ev.now _) (by simp [coll]))
  | succ d ih =>
    intro i acc h0 h1 h2 h5
    have ew : wrap64 (i + 1) = i + 1 := w64 (by omega) (by omega)
    refine Ev.step (fun k => by simp only [spec_SquareBirths.l0]; rw [if_pos (by omega), ew]) (Ev.bind (kiSquare_f i) ?_)
    by_cases h : 0 ≤ sq i 2 119
    · exact Ev.if_pos h (Ev.if_pos (by omega) (Ev.same (ih (i + 1) (acc ++ [i]) (by omega) (by omega) h2 (by simp; omega)) (by simp [coll, h])))
    · exact Ev.if_neg h (Ev.same (ih (i + 1) acc (by omega) (by omega) h2 (by omega)) (by simp [coll, h]))
theorem implSB_l (t : Int) (d : Nat) : ∀ (i : Int) (acc : List Int), 0 ≤ i → i + d = t + 1 → t ≤ 2900 → acc.length + d ≤ 4000 →
    Ev (fun k => impl_SquareBirths.l0 k t acc i) (acc ++ coll (fun j => decide (0 ≤ sq j 2 119)) (fun j => j) i d, true) := by
  induction d with
  | zero =>
    intro i acc h0 h1 h2 h5
    exact Ev.step (f := fun _ => some (acc, true)) (fun k => by simp only [impl_SquareBirths.l0]; rw [if_neg (by omega)]) (Ev.same (Ev.now _) (by simp [coll]))
  | succ d ih =>
    intro i acc h0 h1 h2 h5
    have ew : wrap64 (i + 1) = i + 1 := w64 (by omega) (by omega)
    refine Ev.step (fun k => by simp only [impl_SquareBirths.l0]; rw [if_pos (by omega), ew]) (Ev.bind (implSquareYearOf_f i) ?_)
    by_cases h : 0 ≤ sq i 2 119
    · exact Ev.if_pos (by rw [if_pos ⟨h0, by omega, h⟩]) (Ev.if_pos (by omega) (Ev.same (ih (i + 1) (acc ++ [i]) (by omega) (by omega) h2 (by simp; omega)) (by simp [coll, h])))
    · exact Ev.if_neg (by rw [if_neg (fun q => h q.2.2)]; simp) (Ev.same (ih (i + 1) acc (by omega) (by omega) h2 (by omega)) (by simp [coll, h]))
def sbOf (a b : Int) : List Int := coll (fun j => decide (0 ≤ sq j 2 119)) (fun j => j) a (b + 1 - a).toNat
def sbOk (a b : Int) : Prop := 0 ≤ a ∧ a ≤ b ∧ b ≤ 2900
instance (a b : Int) : Decidable (sbOk a b) := inferInstanceAs (Decidable (0 ≤ a ∧ a ≤ b ∧ b ≤ 2900))
theorem sbOf_length (a b : Int) (h : sbOk a b) : (sbOf a b).length ≤ 4000 := by
  have := coll_length (fun j => decide (0 ≤ sq j 2 119)) (fun j => j) (b + 1 - a).toNat a
  unfold sbOf
  unfold sbOk at h
  omega
theorem specSB_f (a b : Int) : Ev (fun k => spec_SquareBirths.f k a b) (if sbOk a b then (sbOf a b, true) else ([], false)) := by
  refine Ev.congr (fun k => by unfold spec_SquareBirths.f; rfl) (Ev.got (kiBirth_f b) ?_)
  by_cases hb : 0 ≤ b ∧ b ≤ 2900
  · refine Ev.if_pos (by simpa using hb) (Ev.got (l1In_f a 0 b) ?_)
    by_cases ha : 0 ≤ a ∧ a ≤ b
    · refine Ev.step (f := fun k => spec_SquareBirths.l0 k b [] a) (fun k => ?_) (Ev.same (specSB_l b (b + 1 - a).toNat a [] ha.1 (by omega) hb.2 (by simp; omega)) (by rw [if_pos (show sbOk a b from ⟨ha.1, ha.2, hb.2⟩)]; rfl))
      simp only [spec_SquareBirths.j0]; rw [if_neg (by simp; omega)]
    · refine Ev.step (f := fun _ => some ([], false)) (fun k => ?_) (Ev.same (Ev.now _) (by rw [if_neg (by unfold sbOk; omega)]))
      simp only [spec_SquareBirths.j0]; rw [if_pos (by simp; omega)]
  · refine Ev.if_neg (by simpa using hb) (Ev.step (f := fun _ => some ([], false)) (fun k => ?_) (Ev.same (Ev.now _) (by rw [if_neg (by unfold sbOk; omega)])))
    simp only [spec_SquareBirths.j0, if_true]
theorem implSB_f (a b : Int) : Ev (fun k => impl_SquareBirths.f k a b) (if sbOk a b then (sbOf a b, true) else ([], false)) := by
  refine Ev.congr (fun k => by unfold impl_SquareBirths.f; rfl) (Ev.got (isBirth_f a) ?_)
  have bad : ∀ (h : ¬ sbOk a b) (c : Bool) (hc : c = true), Ev (fun k => impl_SquareBirths.j0 k a b c) (if sbOk a b then (sbOf a b, true) else ([], false)) := by
    intro h c hc
    subst hc
    refine Ev.step (f := fun _ => some ([], false)) (fun k => ?_) (Ev.same (Ev.now _) (by rw [if_neg h]))
    simp only [impl_SquareBirths.j0, if_true]
  by_cases ha : 0 ≤ a ∧ a ≤ 2900
  · refine Ev.if_pos (by simpa using ha) (Ev.got (isBirth_f b) ?_)
    by_cases hb : 0 ≤ b ∧ b ≤ 2900
    · refine Ev.if_pos (by simpa using hb) ?_
      by_cases hab : a ≤ b
      · refine Ev.step (f := fun k => impl_SquareBirths.l0 k b [] a) (fun k => ?_) (Ev.same (implSB_l b (b + 1 - a).toNat a [] ha.1 (by omega) hb.2 (by simp; omega)) (by rw [if_pos (show sbOk a b from ⟨ha.1, hab, hb.2⟩)]; rfl))
        simp only [impl_SquareBirths.j0]; rw [if_neg (by simp; omega)]
      · exact bad (by unfold sbOk; omega) _ (by simp; omega)
    · exact Ev.if_neg (by simpa using hb) (bad (by unfold sbOk; omega) _ rfl)
  · exact Ev.if_neg (by simpa using ha) (bad (by unfold sbOk; omega) _ rfl)

/-! #### turned -/
/-! ### turned ages -/
def tu (n : Int) : Int := n % 10 * 10 + n / 10
theorem tu_wrap (n : Int) (h0 : 0 ≤ n) (h1 : n ≤ 1000000) : wrap64 ((wrap64 ((Int.tmod n 10) * 10)) + (wrap64 (Int.tdiv n 10))) = tu n := by
  rw [Int.tmod_eq_emod_of_nonneg h0, Int.tdiv_eq_ediv_of_nonneg h0]
  unfold tu
  rw [w64 (x := n % 10 * 10) (by omega) (by omega), w64 (x := n / 10) (by omega) (by omega), w64 (by omega) (by omega)]
theorem kiTurned_f (n : Int) (h0 : 0 ≤ n) (h1 : n ≤ 1000000) : spec_kiTurned.f n = some (tu n) := by unfold spec_kiTurned.f; rw [tu_wrap n h0 h1]
theorem turned_f (n : Int) (h0 : 0 ≤ n) (h1 : n ≤ 1000000) : impl_turned.f n = some (tu n) := by unfold impl_turned.f; rw [tu_wrap n h0 h1]

/-! #### turndraw -/
theorem one_f {s : List Int} (hs : Byt s) {a : Int} (u n : Int) (h0 : 0 ≤ a) (h1 : a ≤ 1000000000) : ∃ b a' u', spec_l1Cur_one.f s a u n = some (b, a', u') ∧ a ≤ a' ∧ a' ≤ a + 2 := by
  obtain ⟨r, a', u', e, -, -, b0, b1⟩ := pick_f hs u n h0 h1
  unfold spec_l1Cur_one.f
  rw [e]
  exact ⟨_, _, _, rfl, b0, b1⟩
theorem kindAge_f {s : List Int} (hs : Byt s) {a : Int} (u : Int) (h0 : 0 ≤ a) (h1 : a ≤ 1000000) : ∃ r a' u', spec_l1Cur_kindAge.f s a u = some (r, a', u') ∧ a ≤ a' ∧ a' ≤ a + 4 := by
  obtain ⟨b, a1, u1, e, b0, b1⟩ := one_f hs u 8 h0 (by omega)
  unfold spec_l1Cur_kindAge.f
  rw [e]
  simp only [Option.bind_some]
  cases b with
  | true =>
    obtain ⟨r, a2, u2, e2, _, c0, c1⟩ := among_f hs u1 [(-1), 0, 1, 99, 100, 120, 121, 4611686018427387904] (by decide) (show 0 ≤ a1 by omega) (by omega)
    rw [if_pos rfl, e2]
    exact ⟨_, a2, u2, rfl, by omega, by omega⟩
  | false =>
    obtain ⟨r, a2, u2, e2, -, -, c0, c1⟩ := pick_f hs u1 121 (show 0 ≤ a1 by omega) (by omega)
    rw [if_neg (by simp), e2]
    exact ⟨_, a2, u2, rfl, by omega, by omega⟩
theorem birth_f {s : List Int} (hs : Byt s) {a : Int} (u : Int) (h0 : 0 ≤ a) (h1 : a ≤ 1000000) : ∃ r a' u', spec_l1Cur_birth.f s a u = some (r, a', u') ∧ a ≤ a' ∧ a' ≤ a + 4 := by
  obtain ⟨b, a1, u1, e, -, -, b0, b1⟩ := pick_f hs u 8 h0 (by omega)
  unfold spec_l1Cur_birth.f
  rw [e]
  simp only [Option.bind_some]
  by_cases k0 : b = 0
  · obtain ⟨r, a2, u2, e2, _, c0, c1⟩ := among_f hs u1 [(-1), 0, 2, 1806, 1892, 1980, 2899, 2900, 2901, 4611686018427387904] (by decide) (show 0 ≤ a1 by omega) (by omega)
    rw [if_pos k0, e2]
    exact ⟨_, a2, u2, rfl, by omega, by omega⟩
  · rw [if_neg k0]
    by_cases k1 : b = 1
    · obtain ⟨r, a2, u2, e2, -, -, c0, c1⟩ := pick_f hs u1 52 (show 0 ≤ a1 by omega) (by omega)
      rw [if_pos k1, e2]
      exact ⟨_, a2, u2, rfl, by omega, by omega⟩
    · obtain ⟨r, a2, u2, e2, -, -, c0, c1⟩ := pick_f hs u1 120 (show 0 ≤ a1 by omega) (by omega)
      rw [if_neg k1, e2]
      exact ⟨_, a2, u2, rfl, by omega, by omega⟩
theorem drawYT_three {s : List Int} (hs : Byt s) (n : Int) {a : Int} (u : Int) (h0 : 0 ≤ a) (h1 : a ≤ 1000) : ∃ p p2 p3 a3 u3 a4 u4 a5 u5, spec_l1Cur_pick.f s a u n = some (p, a3, u3) ∧ spec_l1Cur_pick.f s a3 u3 9 = some (p2, a4, u4) ∧ spec_l1Cur_pick.f s a4 u4 n = some (p3, a5, u5) := by
  obtain ⟨p, a3, u3, e3, -, -, f0, f1⟩ := pick_f hs u n h0 (Int.le_trans h1 (by decide))
  obtain ⟨p2, a4, u4, e4, -, -, g0, g1⟩ := pick_f hs u3 9 (Int.le_trans h0 f0) (by omega)
  obtain ⟨p3, a5, u5, e5, -, -, i0, i1⟩ := pick_f hs u4 n (Int.le_trans (Int.le_trans h0 f0) g0) (by omega)
  exact ⟨p, p2, p3, a3, u3, a4, u4, a5, u5, e3, e4, e5⟩
theorem drawYT_end {s : List Int} (hs : Byt s) (l : List Int) {a : Int} (u : Int) (h0 : 0 ≤ a) (h1 : a ≤ 1000) : ∃ x y, ((spec_l1Cur_pick.f s a u (wrap64 ((l.length : Int) + 1))).bind fun b => (spec_l1Cur_pick.f s b.2.1 b.2.2 9).bind fun c => (spec_l1Cur_pick.f s c.2.1 c.2.2 (wrap64 ((l.length : Int) + 1))).bind fun d => some (l, wrap64 (b.1 - wrap64 (Int.tdiv c.1 8)), d.1)) = some (l, x, y) := by
  obtain ⟨p, p2, p3, a3, u3, a4, u4, a5, u5, e3, e4, e5⟩ := drawYT_three hs (wrap64 ((l.length : Int) + 1)) u h0 h1
  refine ⟨wrap64 (p - wrap64 (Int.tdiv p2 8)), p3, ?_⟩
  rw [e3, Option.bind_some, e4, Option.bind_some, e5, Option.bind_some]
theorem drawYT {s : List Int} (hs : Byt s) : ∃ l a b, Ev (fun k => spec_DrawYearsTurned.f k s) (l, a, b) ∧ l.length ≤ 10 := by
  obtain ⟨l, a, u, h, hl, b0, b1⟩ := ages_f hs 0 (Int.le_refl _) (by omega)
  obtain ⟨o, a1, u1, e1, c0, c1⟩ := one_f hs u 3 (show 0 ≤ a by omega) (by omega)
  cases o with
  | true =>
    obtain ⟨r, a2, u2, e2, r0, r1, d0, d1⟩ := pick_f hs u1 80 (show 0 ≤ a1 by omega) (by omega)
    have ew : wrap64 (10 + r) = 10 + r := w64 (by omega) (by omega)
    have et := kiTurned_f (10 + r) (by omega) (by omega)
    generalize tu (10 + r) = t at et
    obtain ⟨x, y, hxy⟩ := drawYT_end hs [t, 10 + r] u2 (show 0 ≤ a2 by omega) (by omega)
    refine ⟨[t, 10 + r], x, y, Ev.congr (fun k => by unfold spec_DrawYearsTurned.f; rfl) (Ev.bind h (Ev.got e1 (Ev.if_pos (show true = true from rfl) (Ev.got e2 ?_)))), Nat.le_of_ble_eq_true rfl⟩
    simp only [ew]
    exact Ev.got et (Ev.const (fun k => hxy))
  | false =>
    obtain ⟨x, y, hxy⟩ := drawYT_end hs l u1 (show 0 ≤ a1 by omega) (by omega)
    exact ⟨l, x, y, Ev.congr (fun k => by unfold spec_DrawYearsTurned.f; rfl) (Ev.bind h (Ev.got e1 (Ev.if_neg (show ¬ (false = true) by decide) (Ev.const (fun k => hxy))))), hl⟩
theorem drawYA {s : List Int} (hs : Byt s) : ∃ l, Ev (fun k => spec_DrawYearsAlikeSums.f k s) l ∧ l.length ≤ 10 := by
  obtain ⟨l, a, u, h, hl, b0, b1⟩ := ages_f hs 0 (Int.le_refl _) (by omega)
  exact ⟨l, Ev.congr (fun k => by unfold spec_DrawYearsAlikeSums.f; rfl) (Ev.bind h (Ev.now _)), hl⟩
theorem drawTA {s : List Int} (hs : Byt s) : ∃ n, spec_DrawTurnedAge.f s = some n := by
  obtain ⟨r, a, u, e, _, _⟩ := kindAge_f hs 0 (Int.le_refl _) (by omega)
  unfold spec_DrawTurnedAge.f spec_DrawKindsOf.f
  rw [e]
  exact ⟨_, rfl⟩
theorem drawTB {s : List Int} (hs : Byt s) : ∃ n, spec_DrawTurnedBetween.f s = some n := by
  obtain ⟨b, a1, u1, e, b0, b1⟩ := one_f hs 0 3 (Int.le_refl _) (by omega)
  unfold spec_DrawTurnedBetween.f
  rw [e]
  simp only [Option.bind_some]
  cases b with
  | true =>
    obtain ⟨r, a2, u2, e2, -, -, c0, c1⟩ := pick_f hs u1 10 (show 0 ≤ a1 by omega) (by omega)
    rw [if_pos rfl, e2]
    exact ⟨_, rfl⟩
  | false =>
    obtain ⟨r, a2, u2, e2, _, _⟩ := kindAge_f hs u1 (show 0 ≤ a1 by omega) (by omega)
    rw [if_neg (by simp), e2]
    exact ⟨_, rfl⟩
theorem drawSY {s : List Int} (hs : Byt s) : ∃ n, spec_DrawSquareYearOf.f s = some n := by
  obtain ⟨r, a, u, e, _, _⟩ := birth_f hs 0 (Int.le_refl _) (by omega)
  unfold spec_DrawSquareYearOf.f
  rw [e]
  exact ⟨_, rfl⟩
theorem drawSB {s : List Int} (hs : Byt s) : ∃ x y, spec_DrawSquareBirths.f s = some (x, y) := by
  obtain ⟨r, a, u, e, c0, c1⟩ := birth_f hs 0 (Int.le_refl _) (by omega)
  obtain ⟨p, a3, u3, e3, -, -, f0, f1⟩ := pick_f hs u 200 (show 0 ≤ a by omega) (by omega)
  obtain ⟨p2, a4, u4, e4, -, -, g0, g1⟩ := pick_f hs u3 9 (show 0 ≤ a3 by omega) (by omega)
  unfold spec_DrawSquareBirths.f
  rw [e]
  simp only [Option.bind_some]
  rw [e3]
  simp only [Option.bind_some]
  rw [e4]
  exact ⟨_, _, rfl⟩
theorem drawDY {s : List Int} (hs : Byt s) : ∃ x y z, spec_DrawDividesYears.f s = some (x, y, z) := by
  obtain ⟨r, a, u, e, c0, c1⟩ := birth_f hs 0 (Int.le_refl _) (by omega)
  obtain ⟨b, a1, u1, e1, b0, b1⟩ := one_f hs u 8 (show 0 ≤ a by omega) (by omega)
  unfold spec_DrawDividesYears.f
  rw [e]
  simp only [Option.bind_some]
  rw [e1]
  simp only [Option.bind_some]
  cases b with
  | true =>
    obtain ⟨p, a3, u3, e3, _, f0, f1⟩ := among_f hs u1 [(-1), 0, 2880, 3000] (by decide) (show 0 ≤ a1 by omega) (by omega)
    obtain ⟨p2, a4, u4, e4, _, g0, g1⟩ := among_f hs u3 [(-1), 0, 120, 121, 3000, 3001] (by decide) (show 0 ≤ a3 by omega) (by omega)
    rw [if_pos rfl, e3]
    simp only [Option.bind_some]
    rw [e4]
    exact ⟨_, _, _, rfl⟩
  | false =>
    obtain ⟨p, a3, u3, e3, -, -, f0, f1⟩ := pick_f hs u1 60 (show 0 ≤ a1 by omega) (by omega)
    obtain ⟨p2, a4, u4, e4, -, -, g0, g1⟩ := pick_f hs u3 130 (show 0 ≤ a3 by omega) (by omega)
    obtain ⟨p3, a5, u5, e5, -, -, i0, i1⟩ := pick_f hs u4 9 (show 0 ≤ a4 by omega) (by omega)
    rw [if_neg (by simp), least_f]
    simp only [Option.bind_some]
    rw [e3]
    simp only [Option.bind_some]
    rw [e4]
    simp only [Option.bind_some]
    rw [e5]
    exact ⟨_, _, _, rfl⟩

/-! #### turnedbetween -/
theorem specTB_l (g : Int) (d : Nat) : ∀ (i : Int) (acc : List Int), 10 ≤ i → i + g + d = max 100 (i + g) → 1 ≤ g → g ≤ 120 → i ≤ 1000 → acc.length + d ≤ 1000 →
    Ev (fun k => spec_TurnedBetween.l0 k g acc i) (acc ++ coll (fun j => decide (tu j = j + g)) (fun j => j) i d, true) := by
  induction d with
  | zero =>
    intro i acc h0 h1 h2 h3 h4 h5
    have e : wrap64 (i + g) = i + g := w64 (by omega) (by omega)
    exact Ev.step (f := fun _ => some (acc, true)) (fun k => by simp only [spec_TurnedBetween.l0]; rw [e, if_neg (by omega)]) (Ev.same (Ev.now _) (by simp [coll]))
  | succ d ih =>
    intro i acc h0 h1 h2 h3 h4 h5
    have e : wrap64 (i + g) = i + g := w64 (by omega) (by omega)
    have ew : wrap64 (i + 1) = i + 1 := w64 (by omega) (by omega)
    by_cases h : tu i = i + g
    · refine Ev.step (f := fun k => spec_TurnedBetween.l0 k g (acc ++ [i]) (i + 1)) (fun k => ?_) (Ev.same (ih (i + 1) (acc ++ [i]) (by omega) (by omega) h2 h3 (by omega) (by simp; omega)) (by simp [coll, h]))
      simp only [spec_TurnedBetween.l0]; rw [e, if_pos (by omega), kiTurned_f i (by omega) (by omega)]
      simp only [Option.bind_some]; rw [if_pos h, if_pos (by omega), ew]
    · refine Ev.step (f := fun k => spec_TurnedBetween.l0 k g acc (i + 1)) (fun k => ?_) (Ev.same (ih (i + 1) acc (by omega) (by omega) h2 h3 (by omega) (by omega)) (by simp [coll, h]))
      simp only [spec_TurnedBetween.l0]; rw [e, if_pos (by omega), kiTurned_f i (by omega) (by omega)]
      simp only [Option.bind_some]; rw [if_neg h, ew]
theorem implTB_l (g : Int) (d : Nat) : ∀ (i : Int) (acc : List Int), 10 ≤ i → i + g + d = max 100 (i + g) → 1 ≤ g → g ≤ 120 → i ≤ 1000 → acc.length + d ≤ 1000 →
    Ev (fun k => impl_TurnedBetween.l0 k g acc i) (acc ++ coll (fun j => decide (tu j = j + g)) (fun j => j) i d, true) := by
  induction d with
  | zero =>
    intro i acc h0 h1 h2 h3 h4 h5
    have e : wrap64 (i + g) = i + g := w64 (by omega) (by omega)
    exact Ev.step (f := fun _ => some (acc, true)) (fun k => by simp only [impl_TurnedBetween.l0]; rw [e, if_neg (by omega)]) (Ev.same (Ev.now _) (by simp [coll]))
  | succ d ih =>
    intro i acc h0 h1 h2 h3 h4 h5
    have e : wrap64 (i + g) = i + g := w64 (by omega) (by omega)
    have ew : wrap64 (i + 1) = i + 1 := w64 (by omega) (by omega)
    by_cases h : tu i = i + g
    · refine Ev.step (f := fun k => impl_TurnedBetween.l0 k g (acc ++ [i]) (i + 1)) (fun k => ?_) (Ev.same (ih (i + 1) (acc ++ [i]) (by omega) (by omega) h2 h3 (by omega) (by simp; omega)) (by simp [coll, h]))
      simp only [impl_TurnedBetween.l0]; rw [e, if_pos (by omega), turned_f i (by omega) (by omega)]
      simp only [Option.bind_some]; rw [if_pos h, if_pos (by omega), ew]
    · refine Ev.step (f := fun k => impl_TurnedBetween.l0 k g acc (i + 1)) (fun k => ?_) (Ev.same (ih (i + 1) acc (by omega) (by omega) h2 h3 (by omega) (by omega)) (by simp [coll, h]))
      simp only [impl_TurnedBetween.l0]; rw [e, if_pos (by omega), turned_f i (by omega) (by omega)]
      simp only [Option.bind_some]; rw [if_neg h, ew]
/-- What both say. -/
def tbOf (g : Int) : List Int := coll (fun j => decide (tu j = j + g)) (fun j => j) 10 (90 - g).toNat
theorem tbOf_length (g : Int) (h : 1 ≤ g) : (tbOf g).length ≤ 1000 := by
  have := coll_length (fun j => decide (tu j = j + g)) (fun j => j) (90 - g).toNat 10
  unfold tbOf
  omega
theorem specTB_f (g : Int) : Ev (fun k => spec_TurnedBetween.f k g) (if 1 ≤ g ∧ g ≤ 120 then (tbOf g, true) else ([], false)) := by
  refine Ev.congr (fun k => by unfold spec_TurnedBetween.f; rfl) (Ev.got (l1In_f g 1 120) ?_)
  by_cases hg : 1 ≤ g ∧ g ≤ 120
  · refine Ev.if_pos (by simpa using hg) (Ev.same (specTB_l g (90 - g).toNat 10 [] (by omega) (by omega) hg.1 hg.2 (by omega) (by simp; omega)) (by rw [if_pos hg]; rfl))
  · exact Ev.if_neg (by simpa using hg) (Ev.same (Ev.now _) (by rw [if_neg hg]))
theorem implTB_f (g : Int) : Ev (fun k => impl_TurnedBetween.f k g) (if 1 ≤ g ∧ g ≤ 120 then (tbOf g, true) else ([], false)) := by
  refine Ev.congr (fun k => by unfold impl_TurnedBetween.f; rfl) (Ev.got (between_f g 1 120) ?_)
  by_cases hg : 1 ≤ g ∧ g ≤ 120
  · refine Ev.if_pos (by simpa using hg) (Ev.same (implTB_l g (90 - g).toNat 10 [] (by omega) (by omega) hg.1 hg.2 (by omega) (by simp; omega)) (by rw [if_pos hg]; rfl))
  · exact Ev.if_neg (by simpa using hg) (Ev.same (Ev.now _) (by rw [if_neg hg]))

/-! #### turnforms -/
/-! ### the closed forms of the law's calls -/
def taOf (n : Int) : Int × Bool := if 10 ≤ n ∧ n ≤ 99 then (tu n, true) else (0, false)
theorem implTA_f (n : Int) : impl_TurnedAge.f n = some (taOf n) := by
  unfold impl_TurnedAge.f impl_isTwo.f taOf
  simp only [between_f, Option.bind_some]
  by_cases h : 10 ≤ n ∧ n ≤ 99
  · rw [decide_eq_true h, if_pos rfl, if_pos h, turned_f n (by omega) (by omega)]; rfl
  · rw [decide_eq_false h, if_neg (by simp), if_neg h]
theorem specTA_f (n : Int) : spec_TurnedAge.f n = some (taOf n) := by
  unfold spec_TurnedAge.f taOf
  simp only [l1In_f, Option.bind_some]
  by_cases h : 10 ≤ n ∧ n ≤ 99
  · rw [decide_eq_true h, if_pos rfl, if_pos h, kiTurned_f n (by omega) (by omega)]; rfl
  · rw [decide_eq_false h, if_neg (by simp), if_neg h]
def dgOf (n : Int) : Int × Bool := if 0 ≤ n ∧ n ≤ 120 then (ds 5 n, true) else (0, false)
theorem implDS_f (n : Int) : Ev (fun k => impl_DigitSumOf.f k n) (dgOf n) := by
  unfold dgOf
  by_cases h : 0 ≤ n ∧ n ≤ 120
  · rw [if_pos h]
    exact Ev.congr (fun k => by unfold impl_DigitSumOf.f; simp only [impl_isAge.f, between_f, Option.bind_some]; rfl) (Ev.if_pos (by simpa using h) (Ev.bind (digitSum_f n h.1 (by omega)) (Ev.now _)))
  · rw [if_neg h]
    exact Ev.congr (fun k => by unfold impl_DigitSumOf.f; simp only [impl_isAge.f, between_f, Option.bind_some]; rfl) (Ev.if_neg (by simpa using h) (Ev.now _))
theorem specDS_f (n : Int) : Ev (fun k => spec_DigitSumOf.f k n) (dgOf n) := by
  unfold dgOf
  by_cases h : 0 ≤ n ∧ n ≤ 120
  · rw [if_pos h]
    exact Ev.congr (fun k => by unfold spec_DigitSumOf.f; simp only [spec_kiAge.f, l1In_f, Option.bind_some]; rfl) (Ev.if_pos (by simpa using h) (Ev.bind (kiDigits_f n h.1 (by omega)) (Ev.now _)))
  · rw [if_neg h]
    exact Ev.congr (fun k => by unfold spec_DigitSumOf.f; simp only [spec_kiAge.f, l1In_f, Option.bind_some]; rfl) (Ev.if_neg (by simpa using h) (Ev.now _))
def lyOf (b : Int) : Int × Bool := if 0 ≤ b ∧ b ≤ 2900 then (wrap64 (b + Int.tmod b 100), true) else (0, false)
theorem implLY_f (b : Int) : impl_LastDigitsYear.f b = some (lyOf b) := by
  unfold impl_LastDigitsYear.f lyOf
  simp only [isBirth_f, Option.bind_some]
  by_cases h : 0 ≤ b ∧ b ≤ 2900 <;> simp [h]
theorem specLY_f (b : Int) : spec_LastDigitsYear.f b = some (lyOf b) := by
  unfold spec_LastDigitsYear.f lyOf
  simp only [kiBirth_f, Option.bind_some]
  by_cases h : 0 ≤ b ∧ b ≤ 2900 <;> simp [h]
def tbF (g : Int) : List Int × Bool := if 1 ≤ g ∧ g ≤ 120 then (tbOf g, true) else ([], false)
def sqF (b : Int) : Int × Bool := if 0 ≤ b ∧ b ≤ 2900 ∧ 0 ≤ sq b 2 119 then (sq b 2 119, true) else (0, false)
def dyF (b : Int) : List Int × Bool := if 0 ≤ b ∧ b ≤ 2900 then (dyOf b, true) else ([], false)
def sbF (a b : Int) : List Int × Bool := if sbOk a b then (sbOf a b, true) else ([], false)
def dvF (b x y : Int) : List Int × Bool := if divOk b x y then (divOf b x y, true) else ([], false)
theorem tbF_length (g : Int) : (tbF g).1.length ≤ 4000 := by
  unfold tbF
  split
  · rename_i h; have := tbOf_length g h.1; show (tbOf g).length ≤ 4000; omega
  · simp
theorem dyF_length (b : Int) : (dyF b).1.length ≤ 4000 := by
  unfold dyF
  split
  · have := dyOf_length b; show (dyOf b).length ≤ 4000; omega
  · simp
theorem sbF_length (a b : Int) : (sbF a b).1.length ≤ 4000 := by
  unfold sbF
  split
  · rename_i h; exact sbOf_length a b h
  · simp
theorem dvF_length (b x y : Int) : (dvF b x y).1.length ≤ 4000 := by
  unfold dvF
  split
  · rename_i h; exact divOf_length b x y h
  · simp

/-! #### who -/
/-! ### somebody of ages -/
def whoB (l : List Int) (a : Int) : Bool := goodB l && decide (0 ≤ a ∧ a ≤ (l.length : Int) - 1)
theorem is_f (l : List Int) (a : Int) (hg : goodB l = true) : impl_is.f l a = some (decide (0 ≤ a ∧ a ≤ (l.length : Int) - 1)) := by
  have := good_len hg
  unfold impl_is.f
  rw [between_f, w64 (by omega) (by omega)]
  rfl
theorem who_good {l : List Int} {a : Int} (h : whoB l a = true) : goodB l = true ∧ 0 ≤ a ∧ a < (l.length : Int) := by
  unfold whoB at h
  simp only [Bool.and_eq_true, decide_eq_true_eq] at h
  exact ⟨h.1, h.2.1, by omega⟩
theorem not_who {l : List Int} {a : Int} (hg : goodB l = true) (h : whoB l a = false) : ¬ (0 ≤ a ∧ a ≤ (l.length : Int) - 1) := by
  unfold whoB at h
  rw [hg, Bool.true_and] at h
  exact of_decide_eq_false h
theorem who_is {l : List Int} {a : Int} (h : whoB l a = true) : 0 ≤ a ∧ a ≤ (l.length : Int) - 1 := by
  have := who_good h
  omega

/-! #### two -/
/-! ### two different people -/
def twoB (l : List Int) (a b : Int) : Bool := whoB l a && whoB l b && (a != b)
theorem two_good {l : List Int} {a b : Int} (h : twoB l a b = true) : goodB l = true ∧ (0 ≤ a ∧ a < (l.length : Int)) ∧ (0 ≤ b ∧ b < (l.length : Int)) ∧ a ≠ b := by
  unfold twoB at h
  simp only [Bool.and_eq_true, bne_iff_ne] at h
  have h1 := who_good h.1.1
  have h2 := who_good h.1.2
  exact ⟨h1.1, h1.2, h2.2, h.2⟩
theorem areTwo_f (l : List Int) (a b : Int) : impl_areTwo.f l a b = some (twoB l a b) := by
  unfold impl_areTwo.f
  rw [areAges_f]
  simp only [Option.bind_some]
  cases hg : goodB l with
  | true =>
    rw [if_pos rfl, is_f l a hg, is_f l b hg]
    simp only [Option.bind_some]
    unfold twoB
    cases ha : whoB l a with
    | true =>
      rw [if_pos (by simpa using who_is ha)]
      cases hb : whoB l b with
      | true => rw [if_pos (by simpa using who_is hb)]; simp
      | false => rw [if_neg (by simpa using not_who hg hb)]; simp
    | false => rw [if_neg (by simpa using not_who hg ha)]; simp
  | false =>
    have ha : whoB l a = false := by unfold whoB; rw [hg]; rfl
    rw [if_neg (by simp)]; unfold twoB; rw [ha]; rfl

/-! #### yearsrange -/
def yrOf (l : List Int) : Int × Int × Bool := if goodB l = true then (loY l, hiY l, true) else (0, 0, false)
theorem implYR_f (l : List Int) : impl_YearsRange.f l = some (yrOf l) := by
  unfold impl_YearsRange.f
  rw [areAges_f]
  simp only [Option.bind_some]
  cases hg : goodB l with
  | true => rw [if_pos rfl, fitYears_f hg]; unfold yrOf; rw [if_pos hg]; rfl
  | false => rw [if_neg (by simp)]; unfold yrOf; rw [if_neg (by rw [hg]; simp)]

/-! #### yearsturned -/
def ytQ (l : List Int) (a b y : Int) : Bool := decide (10 ≤ rd l b + y ∧ rd l b + y ≤ 99) && decide (tu (rd l b + y) = rd l a + y)
def ytOf (l : List Int) (a b : Int) : List Int × Bool := if twoB l a b = true then (coll (ytQ l a b) (fun j => j) (loY l) (nY l), true) else ([], false)
theorem ytOf_length (l : List Int) (a b : Int) : (ytOf l a b).1.length ≤ 1000 := by
  unfold ytOf
  split
  · rename_i h
    have h1 := nY_eq (two_good h).1
    have h2 := coll_length (ytQ l a b) (fun j => j) (nY l) (loY l)
    show (coll (ytQ l a b) (fun j => j) (loY l) (nY l)).length ≤ 1000
    omega
  · simp
theorem specYT_f (l : List Int) (a b : Int) : Ev (fun k => spec_YearsTurned.f k l a b) (ytOf l a b) := by
  have bad : ∀ (h : twoB l a b = false) (c : Bool) (hc : c = true), Ev (fun k => spec_YearsTurned.j0 k l a b c) (ytOf l a b) := by
    intro h c hc
    subst hc
    exact Ev.step (f := fun _ => some ([], false)) (fun k => by simp only [spec_YearsTurned.j0, if_true]) (Ev.same (Ev.now _) (by unfold ytOf; rw [if_neg (by rw [h]; simp)]))
  refine Ev.congr (fun k => by unfold spec_YearsTurned.f; rfl) (Ev.bind (agGood_f l) ?_)
  cases hg : goodB l with
  | true =>
    have hb := range_bounds hg
    have hl := good_len hg
    have hn := nY_eq hg
    have ew1 : wrap64 ((l.length : Int) - 1) = (l.length : Int) - 1 := w64 (by omega) (by omega)
    refine Ev.if_pos rfl (Ev.got (l1In_f a 0 _) ?_)
    rw [ew1]
    cases ha : whoB l a with
    | true =>
      refine Ev.if_pos (by simpa using who_is ha) (Ev.got (l1In_f b 0 _) ?_)
      cases hb' : whoB l b with
      | true =>
        refine Ev.if_pos (by simpa using who_is hb') ?_
        by_cases hab : a = b
        · exact bad (by unfold twoB; rw [ha, hb']; simpa using hab) _ (by simpa using hab)
        · have two : twoB l a b = true := by unfold twoB; rw [ha, hb']; simpa using hab
          obtain ⟨_, ⟨a0, a1⟩, ⟨b0, b1⟩, _⟩ := two_good two
          refine Ev.step (fun k => by simp only [spec_YearsTurned.j0]; rw [if_neg (by simpa using hab)]) (Ev.bind (agRange_f hg) (Ev.same (loop_all (g := fun k acc y => spec_YearsTurned.l0 k l a b acc (hiY l) y) (q := ytQ l a b) (lo := loY l) (hi := hiY l) (fun z => (z, true)) (fun acc y r h0 h1 h2 h3 => ?_) (fun acc => ?_) (nY l) (loY l) [] (Int.le_refl _) hn.1 (by simp; omega)) (by unfold ytOf; rw [if_pos two]; simp)))
          · have ew : wrap64 (y + 1) = y + 1 := w64 (by omega) (by omega)
            obtain ⟨m0, m1, me⟩ := rd_fit hg h0 h1 b0 b1
            obtain ⟨n0, n1, ne⟩ := rd_fit hg h0 h1 a0 a1
            refine Ev.step (fun k => by simp only [spec_YearsTurned.l0]; rw [if_pos h1, if_pos b0, if_pos b1, ew, me, ne]) (Ev.got (l1In_f _ 10 99) ?_)
            by_cases hr : 10 ≤ rd l b + y ∧ rd l b + y ≤ 99
            · refine Ev.if_pos (by simpa using hr) (Ev.got (kiTurned_f _ m0 (by omega)) (Ev.if_pos a0 (Ev.if_pos a1 ?_)))
              by_cases ht : tu (rd l b + y) = rd l a + y
              · have e : ytQ l a b y = true := by unfold ytQ; rw [decide_eq_true hr, decide_eq_true ht]; rfl
                exact Ev.if_pos ht (Ev.if_pos (by omega) (by simpa [e] using h3))
              · have e : ytQ l a b y = false := by unfold ytQ; rw [decide_eq_false ht]; simp
                exact Ev.if_neg ht (by simpa [e] using h3)
            · have e : ytQ l a b y = false := by unfold ytQ; rw [decide_eq_false hr]; rfl
              exact Ev.if_neg (by simpa using hr) (by simpa [e] using h3)
          · exact Ev.step (f := fun _ => some (acc, true)) (fun k => by simp only [spec_YearsTurned.l0]; rw [if_neg (by omega)]) (Ev.now _)
      | false => exact Ev.if_neg (by simpa using not_who hg hb') (bad (by unfold twoB; rw [hb']; simp) _ rfl)
    | false => exact Ev.if_neg (by simpa using not_who hg ha) (bad (by unfold twoB; rw [ha]; rfl) _ rfl)
  | false =>
    have ha : whoB l a = false := by unfold whoB; rw [hg]; rfl
    exact Ev.if_neg (by simp) (bad (by unfold twoB; rw [ha]; rfl) _ rfl)
theorem implYT_f (l : List Int) (a b : Int) : Ev (fun k => impl_YearsTurned.f k l a b) (ytOf l a b) := by
  refine Ev.congr (fun k => by unfold impl_YearsTurned.f; rfl) (Ev.got (areTwo_f l a b) ?_)
  cases two : twoB l a b with
  | true =>
    obtain ⟨hg, ⟨a0, a1⟩, ⟨b0, b1⟩, _⟩ := two_good two
    have hl := good_len hg
    refine Ev.if_pos rfl (Ev.bind (allY_f _ (ytQ l a b) hg (fun y h0 h1 => ?_)) (Ev.same (Ev.now _) (by unfold ytOf; rw [if_pos two])))
    obtain ⟨m0, m1, me⟩ := rd_fit hg h0 h1 b0 b1
    obtain ⟨n0, n1, ne⟩ := rd_fit hg h0 h1 a0 a1
    refine Ev.const (fun k => ?_)
    unfold impl_YearsTurned_1.p impl_isTwo.f ytQ
    rw [if_pos b0, if_pos (by rw [inY_length]; exact b1), inY_rd b0 b1, me, between_f]
    simp only [Option.bind_some]
    by_cases hr : 10 ≤ rd l b + y ∧ rd l b + y ≤ 99
    · rw [decide_eq_true hr, if_pos rfl, turned_f _ m0 (by omega)]
      simp only [Option.bind_some]
      rw [if_pos a0, if_pos (by rw [inY_length]; exact a1), inY_rd a0 a1, ne, Bool.beq_eq_decide_eq]; rfl
    · rw [decide_eq_false hr, if_neg (by simp)]; rfl
  | false => exact Ev.if_neg (by simp) (Ev.same (Ev.now _) (by unfold ytOf; rw [if_neg (by rw [two]; simp)]))

end Go.Proofs.Ytpokmbcfmaepcaa.P
