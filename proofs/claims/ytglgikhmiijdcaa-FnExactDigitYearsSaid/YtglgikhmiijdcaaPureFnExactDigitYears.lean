/- In one sentence: the program's DigitYears and the reference's DigitYears return the same for all arguments, and what the law marks stays marked. Conditions: none. -/
import Derived.Test.YtglgikhmiijdcaaPFnExactDigitYearsx2
namespace Go.Proofs.Ytglgikhmiijdcaa.Pure
open Go.RowKit Go.Proofs.Ytglgikhmiijdcaa.PFnExactDigitYears Go.Proofs.YtglgikhmiijdcaaW.PrintWords Go.Proofs.YtglgikhmiijdcaaW.PrintLast
set_option linter.unusedVariables false
set_option linter.unusedSimpArgs false

/-! ### plain helpers: numbers and lists -/
theorem w64 {x : Int} (h0 : -9223372036854775808 ≤ x) (h1 : x ≤ 9223372036854775807) : wrap64 x = x := by
  unfold wrap64
  omega
/-- One item for each i, i + 1, .. (d of them) that p takes. -/
def coll (p : Int → Bool) (f : Int → Int) : Int → Nat → List Int
  | _, 0 => []
  | i, d + 1 => if p i = true then f i :: coll p f (i + 1) d else coll p f (i + 1) d
theorem coll_length (p : Int → Bool) (f : Int → Int) (d : Nat) : ∀ i, (coll p f i d).length ≤ d := by
  induction d with
  | zero => intro i; simp [coll]
  | succ d ih =>
    intro i
    have h := ih (i + 1)
    by_cases hp : p i = true
    · simp only [coll, hp, if_true, List.length_cons]; omega
    · simp only [coll, hp]; exact Nat.le_succ_of_le h
theorem Ev.same {α : Type} {g : Nat → Option α} {r s : α} (h : Ev g r) (e : r = s) : Ev g s := e ▸ h
theorem Ev.const {α : Type} {g : Nat → Option α} {r : α} (h : ∀ k, g k = some r) : Ev g r := ⟨0, fun k _ => h k⟩
theorem Ev.if_pos {α : Type} {c : Prop} [Decidable c] {g f : Nat → Option α} {r : α} (hc : c) (h : Ev g r) : Ev (fun k => if c then g k else f k) r := by
  obtain ⟨K, h⟩ := h
  exact ⟨K, fun k hk => by simp only [_root_.if_pos hc]; exact h k hk⟩
theorem Ev.if_neg {α : Type} {c : Prop} [Decidable c] {g f : Nat → Option α} {r : α} (hc : ¬ c) (h : Ev f r) : Ev (fun k => if c then g k else f k) r := by
  obtain ⟨K, h⟩ := h
  exact ⟨K, fun k hk => by simp only [_root_.if_neg hc]; exact h k hk⟩
/-- A call whose value is known at once. -/
theorem Ev.got {α β : Type} {o : Option α} {a : α} {f : Nat → α → Option β} {r : β} (ho : o = some a) (h : Ev (fun k => f k a) r) : Ev (fun k => o.bind (f k)) r := by
  subst ho
  exact h

/-! ### numbers between bounds -/
theorem l1In_f (a b c : Int) : spec_l1In.f a b c = some (decide (b ≤ a ∧ a ≤ c)) := by
  unfold spec_l1In.f
  split
  · rename_i h; simp [h]
  · rename_i h; simp; omega
theorem between_f (a b c : Int) : impl_between.f a b c = some (decide (b ≤ a ∧ a ≤ c)) := by
  unfold impl_between.f
  split
  · rename_i h; simp [h]
  · rename_i h; simp; omega

theorem kiBirth_f (a : Int) : spec_kiBirth.f a = some (decide (0 ≤ a ∧ a ≤ 2900)) := by simp only [spec_kiBirth.f, l1In_f, Option.bind_some]
theorem isBirth_f (a : Int) : impl_isBirth.f a = some (decide (0 ≤ a ∧ a ≤ 2900)) := by simp only [impl_isBirth.f, between_f, Option.bind_some]

/-! ### two slices compared; a slice marked and looked at again -/
theorem eq_l (l m : List Int) (hl : l.length = m.length) (hb : l.length ≤ 4611686018427387904) (d : Nat) : ∀ (i : Nat), i + d = l.length →
    Ev (fun k => laws_eqIntS.l0 k l m (i : Int)) (decide (l.drop i = m.drop i)) := by
  induction d with
  | zero =>
    intro i hi
    refine Ev.step (f := fun _ => some true) (fun k => ?_) (Ev.same (Ev.now true) ?_)
    · simp only [laws_eqIntS.l0]; rw [if_neg (by omega)]
    · rw [List.drop_of_length_le (by omega), List.drop_of_length_le (by omega)]; simp
  | succ d ih =>
    intro i hi
    have h1 : l.drop i = l[i]'(by omega) :: l.drop (i + 1) := List.drop_eq_getElem_cons (by omega)
    have h2 : m.drop i = m[i]'(by omega) :: m.drop (i + 1) := List.drop_eq_getElem_cons (by omega)
    have e1 : rd l (i : Int) = l[i]'(by omega) := by simp [rd, List.getD_eq_getElem?_getD, List.getElem?_eq_getElem (show i < l.length by omega)]
    have e2 : rd m (i : Int) = m[i]'(by omega) := by simp [rd, List.getD_eq_getElem?_getD, List.getElem?_eq_getElem (show i < m.length by omega)]
    have ew : wrap64 ((i : Int) + 1) = ((i + 1 : Nat) : Int) := by rw [w64 (by omega) (by omega)]; omega
    by_cases he : l[i]'(by omega) = m[i]'(by omega)
    · refine Ev.step (f := fun k => laws_eqIntS.l0 k l m ((i + 1 : Nat) : Int)) (fun k => ?_) (Ev.same (ih (i + 1) (by omega)) ?_)
      · simp only [laws_eqIntS.l0]
        rw [if_pos (by omega), if_pos (by omega), if_pos (by omega), e1, e2, if_pos he, ew]
      · refine decide_eq_decide.mpr ⟨fun h => by rw [h1, h2, he, h], fun h => ?_⟩
        rw [h1, h2] at h
        exact (List.cons.inj h).2
    · refine Ev.step (f := fun _ => some false) (fun k => ?_) (Ev.same (Ev.now false) ?_)
      · simp only [laws_eqIntS.l0]
        rw [if_pos (by omega), if_pos (by omega), if_pos (by omega), e1, e2, if_neg he]
      · refine (decide_eq_false fun h => he ?_).symm
        rw [h1, h2] at h
        exact (List.cons.inj h).1
theorem eq_f (l m : List Int) (hb : l.length ≤ 4611686018427387904) : Ev (fun k => laws_eqIntS.f k l m) (decide (l = m)) := by
  by_cases hl : l.length = m.length
  · refine Ev.congr (f := fun k => laws_eqIntS.l0 k l m 0) (fun k => ?_) (Ev.same (eq_l l m hl hb l.length 0 (by omega)) (by simp))
    simp only [laws_eqIntS.f]; rw [if_pos (by omega)]
  · refine Ev.congr (f := fun _ => some false) (fun k => ?_) (Ev.same (Ev.now false) ?_)
    · simp only [laws_eqIntS.f]; rw [if_neg (by omega)]
    · have : l ≠ m := fun e => hl (by rw [e])
      simp [this]
theorem eq_self (l : List Int) (hb : l.length ≤ 4611686018427387904) : Ev (fun k => laws_eqIntS.f k l l) true := Ev.same (eq_f l l hb) (by simp)
def marks : Int → Nat → List Int
  | _, 0 => []
  | m, d + 1 => m :: marks (m + 1) d
theorem marks_length (d : Nat) : ∀ m, (marks m d).length = d := by
  induction d with
  | zero => intro m; rfl
  | succ d ih => intro m; simp [marks, ih]
theorem mark_l (d : Nat) : ∀ (x : List Int) (m : Int) (i : Nat), i + d = x.length → x.length ≤ 4611686018427387904 → 0 ≤ m → m + d ≤ 4611686018427387905 →
    Ev (fun k => laws_markIntS.l0 k x m (i : Int)) (m + d, x.take i ++ marks m d) := by
  induction d with
  | zero =>
    intro x m i hi hb hm hm2
    refine Ev.step (f := fun _ => some (m, x)) (fun k => ?_) (Ev.same (Ev.now _) ?_)
    · simp only [laws_markIntS.l0]; rw [if_neg (by omega)]
    · rw [List.take_of_length_le (by omega)]; simp [marks]
  | succ d ih =>
    intro x m i hi hb hm hm2
    have ew : wrap64 ((i : Int) + 1) = ((i + 1 : Nat) : Int) := by rw [w64 (by omega) (by omega)]; omega
    have em : wrap64 (m + 1) = m + 1 := w64 (by omega) (by omega)
    refine Ev.step (f := fun k => laws_markIntS.l0 k (x.set i m) (m + 1) ((i + 1 : Nat) : Int)) (fun k => ?_) (Ev.same (ih (x.set i m) (m + 1) (i + 1) (by simp; omega) (by simp; omega) (by omega) (by omega)) ?_)
    · simp only [laws_markIntS.l0]
      rw [if_pos (by omega), if_pos (by omega), ew, em]; simp
    · have : (x.set i m).take (i + 1) = x.take i ++ [m] := by
        rw [List.take_succ_eq_append_getElem (by simp; omega), List.take_set_of_le (Nat.le_refl _)]; simp
      rw [this]
      simp only [marks, List.append_assoc, List.singleton_append, Prod.mk.injEq, and_true]
      omega
theorem mark_f (x : List Int) (hb : x.length ≤ 4611686018427387904) : Ev (fun k => laws_markIntS.f k x 1) (1 + (x.length : Int), marks 1 x.length) := by
  refine Ev.congr (f := fun k => laws_markIntS.l0 k x 1 0) (fun k => rfl) (Ev.same (mark_l x.length x 1 0 (by omega) hb (by omega) (by omega)) (by simp))
theorem held_l (d : Nat) : ∀ (p : List Int) (m : Int), p.length + d ≤ 4611686018427387904 → 0 ≤ m → m + d ≤ 4611686018427387905 →
    Ev (fun k => laws_heldIntS.l0 k (p ++ marks m d) m (p.length : Int)) (m + d) := by
  induction d with
  | zero =>
    intro p m hb hm hm2
    refine Ev.step (f := fun _ => some m) (fun k => ?_) (Ev.same (Ev.now _) (by simp))
    simp only [laws_heldIntS.l0]; rw [if_neg (by simp [marks])]
  | succ d ih =>
    intro p m hb hm hm2
    have ew : wrap64 ((p.length : Int) + 1) = ((p ++ [m]).length : Int) := by rw [w64 (by omega) (by omega)]; simp
    have em : wrap64 (m + 1) = m + 1 := w64 (by omega) (by omega)
    have er : rd (p ++ marks m (d + 1)) (p.length : Int) = m := by simp [rd, marks, List.getD_eq_getElem?_getD]
    refine Ev.step (f := fun k => laws_heldIntS.l0 k ((p ++ [m]) ++ marks (m + 1) d) (m + 1) ((p ++ [m]).length : Int)) (fun k => ?_) (Ev.same (ih (p ++ [m]) (m + 1) (by simp; omega) (by omega) (by omega)) (by omega))
    simp only [laws_heldIntS.l0]
    rw [if_pos (by simp [marks_length]; omega), if_pos (by omega), if_pos er, ew, em]
    simp [marks]
theorem held_f (n : Nat) (hb : n ≤ 4611686018427387904) : Ev (fun k => laws_heldIntS.f k (marks 1 n) 1) (1 + (n : Int)) := by
  refine Ev.congr (f := fun k => laws_heldIntS.l0 k (([] : List Int) ++ marks 1 n) 1 (([] : List Int).length : Int)) (fun k => by simp [laws_heldIntS.f]) (held_l n [] 1 (by simpa using hb) (by omega) (by omega))

/-! ### the sum of digits -/
def ds : Nat → Int → Int
  | 0, _ => 0
  | d + 1, n => n % 10 + ds d (n / 10)
theorem ds_zero (d : Nat) : ds d 0 = 0 := by
  induction d with
  | zero => rfl
  | succ d ih => simp [ds, ih]
theorem kiDigits_l (d : Nat) : ∀ (n s : Int), 0 ≤ n → n < 10 ^ d → 0 ≤ s → s + 10 * d ≤ 1000000 → n ≤ 1000000 → Ev (fun k => spec_kiDigits.l0 k n s) (s + ds d n) := by
  induction d with
  | zero =>
    intro n s h0 h1 _ _ _
    have : n = 0 := by simp at h1; omega
    subst this
    exact Ev.step (f := fun _ => some s) (fun k => by simp [spec_kiDigits.l0]) (Ev.same (Ev.now _) (by simp [ds]))
  | succ d ih =>
    intro n s h0 h1 hs hb hn
    by_cases hp : n > 0
    · have e1 : Int.tdiv n 10 = n / 10 := Int.tdiv_eq_ediv_of_nonneg h0
      have e2 : Int.tmod n 10 = n % 10 := Int.tmod_eq_emod_of_nonneg h0
      have w1 : wrap64 (n / 10) = n / 10 := w64 (by omega) (by omega)
      have w2 : wrap64 (s + n % 10) = s + n % 10 := w64 (by omega) (by omega)
      refine Ev.step (f := fun k => spec_kiDigits.l0 k (n / 10) (s + n % 10)) (fun k => ?_) (Ev.same (ih (n / 10) (s + n % 10) (by omega) ?_ (by omega) (by omega) (by omega)) ?_)
      · simp only [spec_kiDigits.l0]; rw [if_pos hp, e1, e2, w1, w2]
      · rw [Int.pow_succ] at h1; omega
      · simp only [ds]; omega
    · have : n = 0 := by omega
      subst this
      exact Ev.step (f := fun _ => some s) (fun k => by simp [spec_kiDigits.l0]) (Ev.same (Ev.now _) (by rw [ds_zero]; simp))
theorem digitSum_l (d : Nat) : ∀ (n s : Int), 0 ≤ n → n < 10 ^ d → 0 ≤ s → s + 10 * d ≤ 1000000 → n ≤ 1000000 → Ev (fun k => impl_digitSum.l0 k n s) (s + ds d n) := by
  induction d with
  | zero =>
    intro n s h0 h1 _ _ _
    have : n = 0 := by simp at h1; omega
    subst this
    exact Ev.step (f := fun _ => some s) (fun k => by simp [impl_digitSum.l0]) (Ev.same (Ev.now _) (by simp [ds]))
  | succ d ih =>
    intro n s h0 h1 hs hb hn
    by_cases hp : n > 0
    · have e1 : Int.tdiv n 10 = n / 10 := Int.tdiv_eq_ediv_of_nonneg h0
      have e2 : Int.tmod n 10 = n % 10 := Int.tmod_eq_emod_of_nonneg h0
      have w1 : wrap64 (n / 10) = n / 10 := w64 (by omega) (by omega)
      have w2 : wrap64 (s + n % 10) = s + n % 10 := w64 (by omega) (by omega)
      refine Ev.step (f := fun k => impl_digitSum.l0 k (n / 10) (s + n % 10)) (fun k => ?_) (Ev.same (ih (n / 10) (s + n % 10) (by omega) ?_ (by omega) (by omega) (by omega)) ?_)
      · simp only [impl_digitSum.l0]; rw [if_pos hp, e1, e2, w1, w2]
      · rw [Int.pow_succ] at h1; omega
      · simp only [ds]; omega
    · have : n = 0 := by omega
      subst this
      exact Ev.step (f := fun _ => some s) (fun k => by simp [impl_digitSum.l0]) (Ev.same (Ev.now _) (by rw [ds_zero]; simp))
theorem kiDigits_f (n : Int) (h0 : 0 ≤ n) (h1 : n < 100000) : Ev (fun k => spec_kiDigits.f k n) (ds 5 n) :=
  Ev.same (kiDigits_l 5 n 0 h0 (by omega) (by omega) (by omega) (by omega)) (by simp)
theorem digitSum_f (n : Int) (h0 : 0 ≤ n) (h1 : n < 100000) : Ev (fun k => impl_digitSum.f k n) (ds 5 n) :=
  Ev.same (digitSum_l 5 n 0 h0 (by omega) (by omega) (by omega) (by omega)) (by simp)

theorem specDY_l (b : Int) (d : Nat) : ∀ (i : Int) (acc : List Int), 0 ≤ i → i + d = 121 → 0 ≤ b → b ≤ 2900 → acc.length + d ≤ 1000 →
    Ev (fun k => spec_DigitYears.l0 k b acc i) (acc ++ coll (fun j => decide (ds 5 (b + j) = j)) (fun j => b + j) i d, true) := by
  induction d with
  | zero =>
    intro i acc h0 h1 h2 h3 h5
    exact Ev.step (f := fun _ => some (acc, true)) (fun k => by simp only [spec_DigitYears.l0]; rw [if_neg (by omega)]) (Ev.same (Ev.now _) (by simp [coll]))
  | succ d ih =>
    intro i acc h0 h1 h2 h3 h5
    have e : wrap64 (b + i) = b + i := w64 (by omega) (by omega)
    have ew : wrap64 (i + 1) = i + 1 := w64 (by omega) (by omega)
    refine Ev.step (fun k => by simp only [spec_DigitYears.l0]; rw [if_pos (by omega), e, ew]) (Ev.bind (kiDigits_f (b + i) (by omega) (by omega)) ?_)
    by_cases h : ds 5 (b + i) = i
    · exact Ev.if_pos h (Ev.if_pos (by omega) (Ev.same (ih (i + 1) (acc ++ [b + i]) (by omega) (by omega) h2 h3 (by simp; omega)) (by simp [coll, h])))
    · exact Ev.if_neg h (Ev.same (ih (i + 1) acc (by omega) (by omega) h2 h3 (by omega)) (by simp [coll, h]))
theorem implDY_l (b : Int) (d : Nat) : ∀ (i : Int) (acc : List Int), 0 ≤ i → i + d = 121 → 0 ≤ b → b ≤ 2900 → acc.length + d ≤ 1000 →
    Ev (fun k => impl_DigitYears.l0 k b acc i) (acc ++ coll (fun j => decide (ds 5 (b + j) = j)) (fun j => b + j) i d, true) := by
  induction d with
  | zero =>
    intro i acc h0 h1 h2 h3 h5
    exact Ev.step (f := fun _ => some (acc, true)) (fun k => by simp only [impl_DigitYears.l0]; rw [if_neg (by omega)]) (Ev.same (Ev.now _) (by simp [coll]))
  | succ d ih =>
    intro i acc h0 h1 h2 h3 h5
    have e : wrap64 (b + i) = b + i := w64 (by omega) (by omega)
    have ew : wrap64 (i + 1) = i + 1 := w64 (by omega) (by omega)
    refine Ev.step (fun k => by simp only [impl_DigitYears.l0]; rw [if_pos (by omega), e, ew]) (Ev.bind (digitSum_f (b + i) (by omega) (by omega)) ?_)
    by_cases h : ds 5 (b + i) = i
    · exact Ev.if_pos h (Ev.if_pos (by omega) (Ev.same (ih (i + 1) (acc ++ [b + i]) (by omega) (by omega) h2 h3 (by simp; omega)) (by simp [coll, h])))
    · exact Ev.if_neg h (Ev.same (ih (i + 1) acc (by omega) (by omega) h2 h3 (by omega)) (by simp [coll, h]))
def dyOf (b : Int) : List Int := coll (fun j => decide (ds 5 (b + j) = j)) (fun j => b + j) 0 121
theorem dyOf_length (b : Int) : (dyOf b).length ≤ 1000 := by
  have := coll_length (fun j => decide (ds 5 (b + j) = j)) (fun j => b + j) 121 0
  unfold dyOf
  omega
theorem specDY_f (b : Int) : Ev (fun k => spec_DigitYears.f k b) (if 0 ≤ b ∧ b ≤ 2900 then (dyOf b, true) else ([], false)) := by
  refine Ev.congr (fun k => by unfold spec_DigitYears.f; rfl) (Ev.got (kiBirth_f b) ?_)
  by_cases hb : 0 ≤ b ∧ b ≤ 2900
  · exact Ev.if_pos (by simpa using hb) (Ev.same (specDY_l b 121 0 [] (by omega) (by omega) hb.1 hb.2 (by simp)) (by rw [if_pos hb]; rfl))
  · exact Ev.if_neg (by simpa using hb) (Ev.same (Ev.now _) (by rw [if_neg hb]))
theorem implDY_f (b : Int) : Ev (fun k => impl_DigitYears.f k b) (if 0 ≤ b ∧ b ≤ 2900 then (dyOf b, true) else ([], false)) := by
  refine Ev.congr (fun k => by unfold impl_DigitYears.f; rfl) (Ev.got (isBirth_f b) ?_)
  by_cases hb : 0 ≤ b ∧ b ≤ 2900
  · exact Ev.if_pos (by simpa using hb) (Ev.same (implDY_l b 121 0 [] (by omega) (by omega) hb.1 hb.2 (by simp)) (by rw [if_pos hb]; rfl))
  · exact Ev.if_neg (by simpa using hb) (Ev.same (Ev.now _) (by rw [if_neg hb]))

theorem FnExactDigitYears : laws_FnExactDigitYears.Pure := by
  intro a0 w0
  obtain ⟨l, b, hl, hs, hi⟩ : ∃ (l : List Int) (b : Bool), l.length ≤ 4000 ∧ Ev (fun k => spec_DigitYears.f k a0) (l, b) ∧ Ev (fun k => impl_DigitYears.f k a0) (l, b) := by
    by_cases h : 0 ≤ a0 ∧ a0 ≤ 2900
    · exact ⟨dyOf a0, true, Nat.le_trans (dyOf_length a0) (by omega), Ev.same (specDY_f a0) (by rw [if_pos h]), Ev.same (implDY_f a0) (by rw [if_pos h])⟩
    · exact ⟨[], false, by simp, Ev.same (specDY_f a0) (by rw [if_neg h]), Ev.same (implDY_f a0) (by rw [if_neg h])⟩
  apply Ev.rounds
  refine Ev.bind hs (Ev.bind hi (Ev.bind (eq_self l (by omega)) (Ev.if_pos rfl ?_)))
  refine Ev.step (fun k => by simp only [laws_FnExactDigitYears.j0]; rfl) ?_
  refine Ev.if_neg (by simp) (Ev.bind (mark_f l (by omega)) (Ev.bind (held_f l.length (by omega)) (Ev.if_neg (by omega) (Ev.if_pos rfl (Ev.bind hi (Ev.bind (eq_self l (by omega)) (Ev.if_pos rfl ?_)))))))
  refine Ev.step (fun k => by simp only [laws_FnExactDigitYears.j1]; rfl) ?_
  exact Ev.if_neg (by simp) (Ev.bind (held_f l.length (by omega)) (Ev.if_neg (by omega) (Ev.if_pos rfl (Ev.now _))))

end Go.Proofs.Ytglgikhmiijdcaa.Pure
