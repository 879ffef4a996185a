/- In one sentence: the program's SquareBirths and the reference's SquareBirths return the same for all arguments, and what the law marks stays marked. Conditions: none. -/
import Derived.Test.YtglgikhmiijdcaaPFnExactSquareBirthsx2
namespace Go.Proofs.Ytglgikhmiijdcaa.Pure
open Go.RowKit Go.Proofs.Ytglgikhmiijdcaa.PFnExactSquareBirths Go.Proofs.YtglgikhmiijdcaaW.PrintWords Go.Proofs.YtglgikhmiijdcaaW.PrintLast
set_option linter.unusedVariables false
set_option linter.unusedSimpArgs false

/-! ### plain helpers: numbers and lists -/
theorem w64 {x : Int} (h0 : -9223372036854775808 ≤ x) (h1 : x ≤ 9223372036854775807) : wrap64 x = x := by
  unfold wrap64
  omega
/-- One item for each i, i + 1, .. (d of them) that p takes. -/
def coll (p : Int → Bool) (f : Int → Int) : Int → Nat → List Int
  | _, 0 => []
  | i, d + 1 => if p i = true then f i :: coll p f (i + 1) d else coll p f (i + 1) d
theorem coll_length (p : Int → Bool) (f : Int → Int) (d : Nat) : ∀ i, (coll p f i d).length ≤ d := by
  induction d with
  | zero => intro i; simp [coll]
  | succ d ih =>
    intro i
    have h := ih (i + 1)
    by_cases hp : p i = true
    · simp only [coll, hp, if_true, List.length_cons]; omega
    · simp only [coll, hp]; exact Nat.le_succ_of_le h
theorem Ev.same {α : Type} {g : Nat → Option α} {r s : α} (h : Ev g r) (e : r = s) : Ev g s := e ▸ h
theorem Ev.const {α : Type} {g : Nat → Option α} {r : α} (h : ∀ k, g k = some r) : Ev g r := ⟨0, fun k _ => h k⟩
theorem Ev.if_pos {α : Type} {c : Prop} [Decidable c] {g f : Nat → Option α} {r : α} (hc : c) (h : Ev g r) : Ev (fun k => if c then g k else f k) r := by
  obtain ⟨K, h⟩ := h
  exact ⟨K, fun k hk => by simp only [_root_.if_pos hc]; exact h k hk⟩
theorem Ev.if_neg {α : Type} {c : Prop} [Decidable c] {g f : Nat → Option α} {r : α} (hc : ¬ c) (h : Ev f r) : Ev (fun k => if c then g k else f k) r := by
  obtain ⟨K, h⟩ := h
  exact ⟨K, fun k hk => by simp only [_root_.if_neg hc]; exact h k hk⟩
/-- A call whose value is known at once. -/
theorem Ev.got {α β : Type} {o : Option α} {a : α} {f : Nat → α → Option β} {r : β} (ho : o = some a) (h : Ev (fun k => f k a) r) : Ev (fun k => o.bind (f k)) r := by
  subst ho
  exact h

/-! ### numbers between bounds -/
theorem l1In_f (a b c : Int) : spec_l1In.f a b c = some (decide (b ≤ a ∧ a ≤ c)) := by
  unfold spec_l1In.f
  split
  · rename_i h; simp [h]
  · rename_i h; simp; omega
theorem between_f (a b c : Int) : impl_between.f a b c = some (decide (b ≤ a ∧ a ≤ c)) := by
  unfold impl_between.f
  split
  · rename_i h; simp [h]
  · rename_i h; simp; omega

theorem kiBirth_f (a : Int) : spec_kiBirth.f a = some (decide (0 ≤ a ∧ a ≤ 2900)) := by simp only [spec_kiBirth.f, l1In_f, Option.bind_some]
theorem isBirth_f (a : Int) : impl_isBirth.f a = some (decide (0 ≤ a ∧ a ≤ 2900)) := by simp only [impl_isBirth.f, between_f, Option.bind_some]

/-! ### two slices compared; a slice marked and looked at again -/
theorem eq_l (l m : List Int) (hl : l.length = m.length) (hb : l.length ≤ 4611686018427387904) (d : Nat) : ∀ (i : Nat), i + d = l.length →
    Ev (fun k => laws_eqIntS.l0 k l m (i : Int)) (decide (l.drop i = m.drop i)) := by
  induction d with
  | zero =>
    intro i hi
    refine Ev.step (f := fun _ => some true) (fun k => ?_) (Ev.same (Ev.now true) ?_)
    · simp only [laws_eqIntS.l0]; rw [if_neg (by omega)]
    · rw [List.drop_of_length_le (by omega), List.drop_of_length_le (by omega)]; simp
  | succ d ih =>
    intro i hi
    have h1 : l.drop i = l[i]'(by omega) :: l.drop (i + 1) := List.drop_eq_getElem_cons (by omega)
    have h2 : m.drop i = m[i]'(by omega) :: m.drop (i + 1) := List.drop_eq_getElem_cons (by omega)
    have e1 : rd l (i : Int) = l[i]'(by omega) := by simp [rd, List.getD_eq_getElem?_getD, List.getElem?_eq_getElem (show i < l.length by omega)]
    have e2 : rd m (i : Int) = m[i]'(by omega) := by simp [rd, List.getD_eq_getElem?_getD, List.getElem?_eq_getElem (show i < m.length by omega)]
    have ew : wrap64 ((i : Int) + 1) = ((i + 1 : Nat) : Int) := by rw [w64 (by omega) (by omega)]; omega
    by_cases he : l[i]'(by omega) = m[i]'(by omega)
    · refine Ev.step (f := fun k => laws_eqIntS.l0 k l m ((i + 1 : Nat) : Int)) (fun k => ?_) (Ev.same (ih (i + 1) (by omega)) ?_)
      · simp only [laws_eqIntS.l0]
        rw [if_pos (by omega), if_pos (by omega), if_pos (by omega), e1, e2, if_pos he, ew]
      · refine decide_eq_decide.mpr ⟨fun h => by rw [h1, h2, he, h], fun h => ?_⟩
        rw [h1, h2] at h
        exact (List.cons.inj h).2
    · refine Ev.step (f := fun _ => some false) (fun k => ?_) (Ev.same (Ev.now false) ?_)
      · simp only [laws_eqIntS.l0]
        rw [if_pos (by omega), if_pos (by omega), if_pos (by omega), e1, e2, if_neg he]
      · refine (decide_eq_false fun h => he ?_).symm
        rw [h1, h2] at h
        exact (List.cons.inj h).1
theorem eq_f (l m : List Int) (hb : l.length ≤ 4611686018427387904) : Ev (fun k => laws_eqIntS.f k l m) (decide (l = m)) := by
  by_cases hl : l.length = m.length
  · refine Ev.congr (f := fun k => laws_eqIntS.l0 k l m 0) (fun k => ?_) (Ev.same (eq_l l m hl hb l.length 0 (by omega)) (by simp))
    simp only [laws_eqIntS.f]; rw [if_pos (by omega)]
  · refine Ev.congr (f := fun _ => some false) (fun k => ?_) (Ev.same (Ev.now false) ?_)
    · simp only [laws_eqIntS.f]; rw [if_neg (by omega)]
    · have : l ≠ m := fun e => hl (by rw [e])
      simp [this]
theorem eq_self (l : List Int) (hb : l.length ≤ 4611686018427387904) : Ev (fun k => laws_eqIntS.f k l l) true := Ev.same (eq_f l l hb) (by simp)
def marks : Int → Nat → List Int
  | _, 0 => []
  | m, d + 1 => m :: marks (m + 1) d
theorem marks_length (d : Nat) : ∀ m, (marks m d).length = d := by
  induction d with
  | zero => intro m; rfl
  | succ d ih => intro m; simp [marks, ih]
theorem mark_l (d : Nat) : ∀ (x : List Int) (m : Int) (i : Nat), i + d = x.length → x.length ≤ 4611686018427387904 → 0 ≤ m → m + d ≤ 4611686018427387905 →
    Ev (fun k => laws_markIntS.l0 k x m (i : Int)) (m + d, x.take i ++ marks m d) := by
  induction d with
  | zero =>
    intro x m i hi hb hm hm2
    refine Ev.step (f := fun _ => some (m, x)) (fun k => ?_) (Ev.same (Ev.now _) ?_)
    · simp only [laws_markIntS.l0]; rw [if_neg (by omega)]
    · rw [List.take_of_length_le (by omega)]; simp [marks]
  | succ d ih =>
    intro x m i hi hb hm hm2
    have ew : wrap64 ((i : Int) + 1) = ((i + 1 : Nat) : Int) := by rw [w64 (by omega) (by omega)]; omega
    have em : wrap64 (m + 1) = m + 1 := w64 (by omega) (by omega)
    refine Ev.step (f := fun k => laws_markIntS.l0 k (x.set i m) (m + 1) ((i + 1 : Nat) : Int)) (fun k => ?_) (Ev.same (ih (x.set i m) (m + 1) (i + 1) (by simp; omega) (by simp; omega) (by omega) (by omega)) ?_)
    · simp only [laws_markIntS.l0]
      rw [if_pos (by omega), if_pos (by omega), ew, em]; simp
    · have : (x.set i m).take (i + 1) = x.take i ++ [m] := by
        rw [List.take_succ_eq_append_getElem (by simp; omega), List.take_set_of_le (Nat.le_refl _)]; simp
      rw [this]
      simp only [marks, List.append_assoc, List.singleton_append, Prod.mk.injEq, and_true]
      omega
theorem mark_f (x : List Int) (hb : x.length ≤ 4611686018427387904) : Ev (fun k => laws_markIntS.f k x 1) (1 + (x.length : Int), marks 1 x.length) := by
  refine Ev.congr (f := fun k => laws_markIntS.l0 k x 1 0) (fun k => rfl) (Ev.same (mark_l x.length x 1 0 (by omega) hb (by omega) (by omega)) (by simp))
theorem held_l (d : Nat) : ∀ (p : List Int) (m : Int), p.length + d ≤ 4611686018427387904 → 0 ≤ m → m + d ≤ 4611686018427387905 →
    Ev (fun k => laws_heldIntS.l0 k (p ++ marks m d) m (p.length : Int)) (m + d) := by
  induction d with
  | zero =>
    intro p m hb hm hm2
    refine Ev.step (f := fun _ => some m) (fun k => ?_) (Ev.same (Ev.now _) (by simp))
    simp only [laws_heldIntS.l0]; rw [if_neg (by simp [marks])]
  | succ d ih =>
    intro p m hb hm hm2
    have ew : wrap64 ((p.length : Int) + 1) = ((p ++ [m]).length : Int) := by rw [w64 (by omega) (by omega)]; simp
    have em : wrap64 (m + 1) = m + 1 := w64 (by omega) (by omega)
    have er : rd (p ++ marks m (d + 1)) (p.length : Int) = m := by simp [rd, marks, List.getD_eq_getElem?_getD]
    refine Ev.step (f := fun k => laws_heldIntS.l0 k ((p ++ [m]) ++ marks (m + 1) d) (m + 1) ((p ++ [m]).length : Int)) (fun k => ?_) (Ev.same (ih (p ++ [m]) (m + 1) (by simp; omega) (by omega) (by omega)) (by omega))
    simp only [laws_heldIntS.l0]
    rw [if_pos (by simp [marks_length]; omega), if_pos (by omega), if_pos er, ew, em]
    simp [marks]
theorem held_f (n : Nat) (hb : n ≤ 4611686018427387904) : Ev (fun k => laws_heldIntS.f k (marks 1 n) 1) (1 + (n : Int)) := by
  refine Ev.congr (f := fun k => laws_heldIntS.l0 k (([] : List Int) ++ marks 1 n) 1 (([] : List Int).length : Int)) (fun k => by simp [laws_heldIntS.f]) (held_l n [] 1 (by simpa using hb) (by omega) (by omega))

/-! ### the age whose square is the year -/
def sq (b : Int) : Int → Nat → Int
  | _, 0 => -1
  | i, d + 1 => if i * i - i = b then i else sq b (i + 1) d
theorem sq_some (b : Int) (d : Nat) : ∀ i, 0 ≤ i → (sq b i d < 0 ∧ sq b i d = -1) ∨ (i ≤ sq b i d ∧ sq b i d * sq b i d - sq b i d = b) := by
  induction d with
  | zero => intro i _; simp [sq]
  | succ d ih =>
    intro i hi
    by_cases h : i * i - i = b
    · have q : sq b i (d + 1) = i := by simp only [sq]; rw [if_pos h]
      rw [q]
      exact .inr ⟨Int.le_refl _, h⟩
    · have q : sq b i (d + 1) = sq b (i + 1) d := by simp only [sq]; rw [if_neg h]
      rw [q]
      rcases ih (i + 1) (by omega) with ⟨h1, h2⟩ | ⟨h1, h2⟩
      · exact .inl ⟨h1, h2⟩
      · exact .inr ⟨by omega, h2⟩
theorem sq_wrap (i : Int) (h0 : 2 ≤ i) (h1 : i ≤ 120) : wrap64 (wrap64 (i * i) - i) = i * i - i := by
  have a : 0 ≤ i * i := Int.mul_nonneg (by omega) (by omega)
  have b : i * i ≤ 120 * 120 := Int.mul_le_mul h1 h1 (by omega) (by omega)
  rw [w64 (x := i * i) (by omega) (by omega), w64 (by omega) (by omega)]
theorem kiSquare_l (b : Int) (d : Nat) : ∀ (i : Int), 2 ≤ i → i + d = 121 → Ev (fun k => spec_kiSquare.l0 k b i) (sq b i d) := by
  induction d with
  | zero =>
    intro i h0 h1
    exact Ev.step (f := fun _ => some (-1)) (fun k => by simp only [spec_kiSquare.l0]; rw [if_neg (by omega)]) (Ev.now _)
  | succ d ih =>
    intro i h0 h1
    have e := sq_wrap i h0 (by omega)
    have ew : wrap64 (i + 1) = i + 1 := w64 (by omega) (by omega)
    by_cases h : i * i - i = b
    · refine Ev.step (f := fun _ => some i) (fun k => ?_) (Ev.same (Ev.now _) (by simp only [sq]; rw [if_pos h]))
      simp only [spec_kiSquare.l0]; rw [if_pos (by omega), e, if_pos h]
    · refine Ev.step (f := fun k => spec_kiSquare.l0 k b (i + 1)) (fun k => ?_) (Ev.same (ih (i + 1) (by omega) (by omega)) (by simp only [sq]; rw [if_neg h]))
      simp only [spec_kiSquare.l0]; rw [if_pos (by omega), e, if_neg h, ew]
theorem kiSquare_f (b : Int) : Ev (fun k => spec_kiSquare.f k b) (sq b 2 119) := kiSquare_l b 119 2 (by omega) (by omega)

theorem implSquare_l (b : Int) (d : Nat) : ∀ (i : Int), 2 ≤ i → i + d = 121 → Ev (fun k => impl_SquareYearOf.l0 k b i) (if 0 ≤ sq b i d then (sq b i d, true) else (0, false)) := by
  induction d with
  | zero =>
    intro i h0 h1
    exact Ev.step (f := fun _ => some (0, false)) (fun k => by simp only [impl_SquareYearOf.l0]; rw [if_neg (by omega)]) (Ev.same (Ev.now _) (by simp [sq]))
  | succ d ih =>
    intro i h0 h1
    have e := sq_wrap i h0 (by omega)
    have ew : wrap64 (i + 1) = i + 1 := w64 (by omega) (by omega)
    by_cases h : i * i - i = b
    · refine Ev.step (f := fun _ => some (i, true)) (fun k => ?_) (Ev.same (Ev.now _) ?_)
      · simp only [impl_SquareYearOf.l0]; rw [if_pos (by omega), e, if_pos h]
      · have q : sq b i (d + 1) = i := by simp only [sq]; rw [if_pos h]
        simp only [q]; rw [if_pos (by omega)]
    · have q : sq b i (d + 1) = sq b (i + 1) d := by simp only [sq]; rw [if_neg h]
      refine Ev.step (f := fun k => impl_SquareYearOf.l0 k b (i + 1)) (fun k => ?_) (Ev.same (ih (i + 1) (by omega) (by omega)) (by simp only [q]))
      simp only [impl_SquareYearOf.l0]; rw [if_pos (by omega), e, if_neg h, ew]
theorem implSquareYearOf_f (b : Int) : Ev (fun k => impl_SquareYearOf.f k b) (if 0 ≤ b ∧ b ≤ 2900 ∧ 0 ≤ sq b 2 119 then (sq b 2 119, true) else (0, false)) := by
  refine Ev.congr (fun k => by unfold impl_SquareYearOf.f; rfl) (Ev.got (isBirth_f b) ?_)
  by_cases hb : 0 ≤ b ∧ b ≤ 2900
  · refine Ev.if_pos (by simpa using hb) (Ev.same (implSquare_l b 119 2 (by omega) (by omega)) ?_)
    by_cases hs : 0 ≤ sq b 2 119
    · rw [if_pos hs, if_pos ⟨hb.1, hb.2, hs⟩]
    · rw [if_neg hs, if_neg (fun h => hs h.2.2)]
  · exact Ev.if_neg (by simpa using hb) (Ev.same (Ev.now _) (by rw [if_neg (by omega)]))

theorem specSB_l (t : Int) (d : Nat) : ∀ (i : Int) (acc : List Int), 0 ≤ i → i + d = t + 1 → t ≤ 2900 → acc.length + d ≤ 4000 →
    Ev (fun k => spec_SquareBirths.l0 k t acc i) (acc ++ coll (fun j => decide (0 ≤ sq j 2 119)) (fun j => j) i d, true) := by
  induction d with
  | zero =>
    intro i acc h0 h1 h2 h5
    exact Ev.step (f := fun _ => some (acc, true)) (fun k => by simp only [spec_SquareBirths.l0]; rw [if_neg (by omega)]) (Ev.same (Ev.now _) (by simp [coll]))
  | succ d ih =>
    intro i acc h0 h1 h2 h5
    have ew : wrap64 (i + 1) = i + 1 := w64 (by omega) (by omega)
    refine Ev.step (fun k => by simp only [spec_SquareBirths.l0]; rw [if_pos (by omega), ew]) (Ev.bind (kiSquare_f i) ?_)
    by_cases h : 0 ≤ sq i 2 119
    · exact Ev.if_pos h (Ev.if_pos (by omega) (Ev.same (ih (i + 1) (acc ++ [i]) (by omega) (by omega) h2 (by simp; omega)) (by simp [coll, h])))
    · exact Ev.if_neg h (Ev.same (ih (i + 1) acc (by omega) (by omega) h2 (by omega)) (by simp [coll, h]))
theorem implSB_l (t : Int) (d : Nat) : ∀ (i : Int) (acc : List Int), 0 ≤ i → i + d = t + 1 → t ≤ 2900 → acc.length + d ≤ 4000 →
    Ev (fun k => impl_SquareBirths.l0 k t acc i) (acc ++ coll (fun j => decide (0 ≤ sq j 2 119)) (fun j => j) i d, true) := by
  induction d with
  | zero =>
    intro i acc h0 h1 h2 h5
    exact Ev.step (f := fun _ => some (acc, true)) (fun k => by simp only [impl_SquareBirths.l0]; rw [if_neg (by omega)]) (Ev.same (Ev.now _) (by simp [coll]))
  | succ d ih =>
    intro i acc h0 h1 h2 h5
    have ew : wrap64 (i + 1) = i + 1 := w64 (by omega) (by omega)
    refine Ev.step (fun k => by simp only [impl_SquareBirths.l0]; rw [if_pos (by omega), ew]) (Ev.bind (implSquareYearOf_f i) ?_)
    by_cases h : 0 ≤ sq i 2 119
    · exact Ev.if_pos (by rw [if_pos ⟨h0, by omega, h⟩]) (Ev.if_pos (by omega) (Ev.same (ih (i + 1) (acc ++ [i]) (by omega) (by omega) h2 (by simp; omega)) (by simp [coll, h])))
    · exact Ev.if_neg (by rw [if_neg (fun q => h q.2.2)]; simp) (Ev.same (ih (i + 1) acc (by omega) (by omega) h2 (by omega)) (by simp [coll, h]))
def sbOf (a b : Int) : List Int := coll (fun j => decide (0 ≤ sq j 2 119)) (fun j => j) a (b + 1 - a).toNat
def sbOk (a b : Int) : Prop := 0 ≤ a ∧ a ≤ b ∧ b ≤ 2900
instance (a b : Int) : Decidable (sbOk a b) := inferInstanceAs (Decidable (0 ≤ a ∧ a ≤ b ∧ b ≤ 2900))
theorem sbOf_length (a b : Int) (h : sbOk a b) : (sbOf a b).length ≤ 4000 := by
  have := coll_length (fun j => decide (0 ≤ sq j 2 119)) (fun j => j) (b + 1 - a).toNat a
  unfold sbOf
  unfold sbOk at h
  omega
theorem specSB_f (a b : Int) : Ev (fun k => spec_SquareBirths.f k a b) (if sbOk a b then (sbOf a b, true) else ([], false)) := by
  refine Ev.congr (fun k => by unfold spec_SquareBirths.f; rfl) (Ev.got (kiBirth_f b) ?_)
  by_cases hb : 0 ≤ b ∧ b ≤ 2900
  · refine Ev.if_pos (by simpa using hb) (Ev.got (l1In_f a 0 b) ?_)
    by_cases ha : 0 ≤ a ∧ a ≤ b
    · refine Ev.step (f := fun k => spec_SquareBirths.l0 k b [] a) (fun k => ?_) (Ev.same (specSB_l b (b + 1 - a).toNat a [] ha.1 (by omega) hb.2 (by simp; omega)) (by rw [if_pos (show sbOk a b from ⟨ha.1, ha.2, hb.2⟩)]; rfl))
      simp only [spec_SquareBirths.j0]; rw [if_neg (by simp; omega)]
    · refine Ev.step (f := fun _ => some ([], false)) (fun k => ?_) (Ev.same (Ev.now _) (by rw [if_neg (by unfold sbOk; omega)]))
      simp only [spec_SquareBirths.j0]; rw [if_pos (by simp; omega)]
  · refine Ev.if_neg (by simpa using hb) (Ev.step (f := fun _ => some ([], false)) (fun k => ?_) (Ev.same (Ev.now _) (by rw [if_neg (by unfold sbOk; omega)])))
    simp only [spec_SquareBirths.j0, if_true]
theorem implSB_f (a b : Int) : Ev (fun k => impl_SquareBirths.f k a b) (if sbOk a b then (sbOf a b, true) else ([], false)) := by
  refine Ev.congr (fun k => by unfold impl_SquareBirths.f; rfl) (Ev.got (isBirth_f a) ?_)
  have bad : ∀ (h : ¬ sbOk a b) (c : Bool) (hc : c = true), Ev (fun k => impl_SquareBirths.j0 k a b c) (if sbOk a b then (sbOf a b, true) else ([], false)) := by
    intro h c hc
    subst hc
    refine Ev.step (f := fun _ => some ([], false)) (fun k => ?_) (Ev.same (Ev.now _) (by rw [if_neg h]))
    simp only [impl_SquareBirths.j0, if_true]
  by_cases ha : 0 ≤ a ∧ a ≤ 2900
  · refine Ev.if_pos (by simpa using ha) (Ev.got (isBirth_f b) ?_)
    by_cases hb : 0 ≤ b ∧ b ≤ 2900
    · refine Ev.if_pos (by simpa using hb) ?_
      by_cases hab : a ≤ b
      · refine Ev.step (f := fun k => impl_SquareBirths.l0 k b [] a) (fun k => ?_) (Ev.same (implSB_l b (b + 1 - a).toNat a [] ha.1 (by omega) hb.2 (by simp; omega)) (by rw [if_pos (show sbOk a b from ⟨ha.1, hab, hb.2⟩)]; rfl))
        simp only [impl_SquareBirths.j0]; rw [if_neg (by simp; omega)]
      · exact bad (by unfold sbOk; omega) _ (by simp; omega)
    · exact Ev.if_neg (by simpa using hb) (bad (by unfold sbOk; omega) _ rfl)
  · exact Ev.if_neg (by simpa using ha) (bad (by unfold sbOk; omega) _ rfl)

theorem FnExactSquareBirths : laws_FnExactSquareBirths.Pure := by
  intro a0 a1 w0 w1
  obtain ⟨l, b, hl, hs, hi⟩ : ∃ (l : List Int) (b : Bool), l.length ≤ 4000 ∧ Ev (fun k => spec_SquareBirths.f k a0 a1) (l, b) ∧ Ev (fun k => impl_SquareBirths.f k a0 a1) (l, b) := by
    by_cases h : sbOk a0 a1
    · exact ⟨sbOf a0 a1, true, Nat.le_trans (sbOf_length a0 a1 h) (by omega), Ev.same (specSB_f a0 a1) (by rw [if_pos h]), Ev.same (implSB_f a0 a1) (by rw [if_pos h])⟩
    · exact ⟨[], false, by simp, Ev.same (specSB_f a0 a1) (by rw [if_neg h]), Ev.same (implSB_f a0 a1) (by rw [if_neg h])⟩
  apply Ev.rounds
  refine Ev.bind hs (Ev.bind hi (Ev.bind (eq_self l (by omega)) (Ev.if_pos rfl ?_)))
  refine Ev.step (fun k => by simp only [laws_FnExactSquareBirths.j0]; rfl) ?_
  refine Ev.if_neg (by simp) (Ev.bind (mark_f l (by omega)) (Ev.bind (held_f l.length (by omega)) (Ev.if_neg (by omega) (Ev.if_pos rfl (Ev.bind hi (Ev.bind (eq_self l (by omega)) (Ev.if_pos rfl ?_)))))))
  refine Ev.step (fun k => by simp only [laws_FnExactSquareBirths.j1]; rfl) ?_
  exact Ev.if_neg (by simp) (Ev.bind (held_f l.length (by omega)) (Ev.if_neg (by omega) (Ev.if_pos rfl (Ev.now _))))

end Go.Proofs.Ytglgikhmiijdcaa.Pure
