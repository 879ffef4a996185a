/- In one sentence: the program's TurnedBetween and the reference's TurnedBetween return the same for all arguments, and what the law marks stays marked. Conditions: none. -/
import Derived.Test.YtglgikhmiijdcaaPFnExactTurnedBetweenx2
namespace Go.Proofs.Ytglgikhmiijdcaa.Pure
open Go.RowKit Go.Proofs.Ytglgikhmiijdcaa.PFnExactTurnedBetween Go.Proofs.YtglgikhmiijdcaaW.PrintWords Go.Proofs.YtglgikhmiijdcaaW.PrintLast
set_option linter.unusedVariables false
set_option linter.unusedSimpArgs false

/-! ### plain helpers: numbers and lists -/
theorem w64 {x : Int} (h0 : -9223372036854775808 ≤ x) (h1 : x ≤ 9223372036854775807) : wrap64 x = x := by
  unfold wrap64
  omega
/-- One item for each i, i + 1, .. (d of them) that p takes. -/
def coll (p : Int → Bool) (f : Int → Int) : Int → Nat → List Int
  | _, 0 => []
  | i, d + 1 => if p i = true then f i :: coll p f (i + 1) d else coll p f (i + 1) d
theorem coll_length (p : Int → Bool) (f : Int → Int) (d : Nat) : ∀ i, (coll p f i d).length ≤ d := by
  induction d with
  | zero => intro i; simp [coll]
  | succ d ih =>
    intro i
    have h := ih (i + 1)
    by_cases hp : p i = true
    · simp only [coll, hp, if_true, List.length_cons]; omega
    · simp only [coll, hp]; exact Nat.le_succ_of_le h
theorem Ev.same {α : Type} {g : Nat → Option α} {r s : α} (h : Ev g r) (e : r = s) : Ev g s := e ▸ h
theorem Ev.const {α : Type} {g : Nat → Option α} {r : α} (h : ∀ k, g k = some r) : Ev g r := ⟨0, fun k _ => h k⟩
theorem Ev.if_pos {α : Type} {c : Prop} [Decidable c] {g f : Nat → Option α} {r : α} (hc : c) (h : Ev g r) : Ev (fun k => if c then g k else f k) r := by
  obtain ⟨K, h⟩ := h
  exact ⟨K, fun k hk => by simp only [_root_.if_pos hc]; exact h k hk⟩
theorem Ev.if_neg {α : Type} {c : Prop} [Decidable c] {g f : Nat → Option α} {r : α} (hc : ¬ c) (h : Ev f r) : Ev (fun k => if c then g k else f k) r := by
  obtain ⟨K, h⟩ := h
  exact ⟨K, fun k hk => by simp only [_root_.if_neg hc]; exact h k hk⟩
/-- A call whose value is known at once. -/
theorem Ev.got {α β : Type} {o : Option α} {a : α} {f : Nat → α → Option β} {r : β} (ho : o = some a) (h : Ev (fun k => f k a) r) : Ev (fun k => o.bind (f k)) r := by
  subst ho
  exact h

/-! ### numbers between bounds -/
theorem l1In_f (a b c : Int) : spec_l1In.f a b c = some (decide (b ≤ a ∧ a ≤ c)) := by
  unfold spec_l1In.f
  split
  · rename_i h; simp [h]
  · rename_i h; simp; omega
theorem between_f (a b c : Int) : impl_between.f a b c = some (decide (b ≤ a ∧ a ≤ c)) := by
  unfold impl_between.f
  split
  · rename_i h; simp [h]
  · rename_i h; simp; omega

/-! ### two slices compared; a slice marked and looked at again -/
theorem eq_l (l m : List Int) (hl : l.length = m.length) (hb : l.length ≤ 4611686018427387904) (d : Nat) : ∀ (i : Nat), i + d = l.length →
    Ev (fun k => laws_eqIntS.l0 k l m (i : Int)) (decide (l.drop i = m.drop i)) := by
  induction d with
  | zero =>
    intro i hi
    refine Ev.step (f := fun _ => some true) (fun k => ?_) (Ev.same (Ev.now true) ?_)
    · simp only [laws_eqIntS.l0]; rw [if_neg (by omega)]
    · rw [List.drop_of_length_le (by omega), List.drop_of_length_le (by omega)]; simp
  | succ d ih =>
    intro i hi
    have h1 : l.drop i = l[i]'(by omega) :: l.drop (i + 1) := List.drop_eq_getElem_cons (by omega)
    have h2 : m.drop i = m[i]'(by omega) :: m.drop (i + 1) := List.drop_eq_getElem_cons (by omega)
    have e1 : rd l (i : Int) = l[i]'(by omega) := by simp [rd, List.getD_eq_getElem?_getD, List.getElem?_eq_getElem (show i < l.length by omega)]
    have e2 : rd m (i : Int) = m[i]'(by omega) := by simp [rd, List.getD_eq_getElem?_getD, List.getElem?_eq_getElem (show i < m.length by omega)]
    have ew : wrap64 ((i : Int) + 1) = ((i + 1 : Nat) : Int) := by rw [w64 (by omega) (by omega)]; omega
    by_cases he : l[i]'(by omega) = m[i]'(by omega)
    · refine Ev.step (f := fun k => laws_eqIntS.l0 k l m ((i + 1 : Nat) : Int)) (fun k => ?_) (Ev.same (ih (i + 1) (by omega)) ?_)
      · simp only [laws_eqIntS.l0]
        rw [if_pos (by omega), if_pos (by omega), if_pos (by omega), e1, e2, if_pos he, ew]
      · refine decide_eq_decide.mpr ⟨fun h => by rw [h1, h2, he, h], fun h => ?_⟩
        rw [h1, h2] at h
        exact (List.cons.inj h).2
    · refine Ev.step (f := fun _ => some false) (fun k => ?_) (Ev.same (Ev.now false) ?_)
      · simp only [laws_eqIntS.l0]
        rw [if_pos (by omega), if_pos (by omega), if_pos (by omega), e1, e2, if_neg he]
      · refine (decide_eq_false fun h => he ?_).symm
        rw [h1, h2] at h
        exact (List.cons.inj h).1
theorem eq_f (l m : List Int) (hb : l.length ≤ 4611686018427387904) : Ev (fun k => laws_eqIntS.f k l m) (decide (l = m)) := by
  by_cases hl : l.length = m.length
  · refine Ev.congr (f := fun k => laws_eqIntS.l0 k l m 0) (fun k => ?_) (Ev.same (eq_l l m hl hb l.length 0 (by omega)) (by simp))
    simp only [laws_eqIntS.f]; rw [if_pos (by omega)]
  · refine Ev.congr (f := fun _ => some false) (fun k => ?_) (Ev.same (Ev.now false) ?_)
    · simp only [laws_eqIntS.f]; rw [if_neg (by omega)]
    · have : l ≠ m := fun e => hl (by rw [e])
      simp [this]
theorem eq_self (l : List Int) (hb : l.length ≤ 4611686018427387904) : Ev (fun k => laws_eqIntS.f k l l) true := Ev.same (eq_f l l hb) (by simp)
def marks : Int → Nat → List Int
  | _, 0 => []
  | m, d + 1 => m :: marks (m + 1) d
theorem marks_length (d : Nat) : ∀ m, (marks m d).length = d := by
  induction d with
  | zero => intro m; rfl
  | succ d ih => intro m; simp [marks, ih]
theorem mark_l (d : Nat) : ∀ (x : List Int) (m : Int) (i : Nat), i + d = x.length → x.length ≤ 4611686018427387904 → 0 ≤ m → m + d ≤ 4611686018427387905 →
    Ev (fun k => laws_markIntS.l0 k x m (i : Int)) (m + d, x.take i ++ marks m d) := by
  induction d with
  | zero =>
    intro x m i hi hb hm hm2
    refine Ev.step (f := fun _ => some (m, x)) (fun k => ?_) (Ev.same (Ev.now _) ?_)
    · simp only [laws_markIntS.l0]; rw [if_neg (by omega)]
    · rw [List.take_of_length_le (by omega)]; simp [marks]
  | succ d ih =>
    intro x m i hi hb hm hm2
    have ew : wrap64 ((i : Int) + 1) = ((i + 1 : Nat) : Int) := by rw [w64 (by omega) (by omega)]; omega
    have em : wrap64 (m + 1) = m + 1 := w64 (by omega) (by omega)
    refine Ev.step (f := fun k => laws_markIntS.l0 k (x.set i m) (m + 1) ((i + 1 : Nat) : Int)) (fun k => ?_) (Ev.same (ih (x.set i m) (m + 1) (i + 1) (by simp; omega) (by simp; omega) (by omega) (by omega)) ?_)
    · simp only [laws_markIntS.l0]
      rw [if_pos (by omega), if_pos (by omega), ew, em]; simp
    · have : (x.set i m).take (i + 1) = x.take i ++ [m] := by
        rw [List.take_succ_eq_append_getElem (by simp; omega), List.take_set_of_le (Nat.le_refl _)]; simp
      rw [this]
      simp only [marks, List.append_assoc, List.singleton_append, Prod.mk.injEq, and_true]
      omega
theorem mark_f (x : List Int) (hb : x.length ≤ 4611686018427387904) : Ev (fun k => laws_markIntS.f k x 1) (1 + (x.length : Int), marks 1 x.length) := by
  refine Ev.congr (f := fun k => laws_markIntS.l0 k x 1 0) (fun k => rfl) (Ev.same (mark_l x.length x 1 0 (by omega) hb (by omega) (by omega)) (by simp))
theorem held_l (d : Nat) : ∀ (p : List Int) (m : Int), p.length + d ≤ 4611686018427387904 → 0 ≤ m → m + d ≤ 4611686018427387905 →
    Ev (fun k => laws_heldIntS.l0 k (p ++ marks m d) m (p.length : Int)) (m + d) := by
  induction d with
  | zero =>
    intro p m hb hm hm2
    refine Ev.step (f := fun _ => some m) (fun k => ?_) (Ev.same (Ev.now _) (by simp))
    simp only [laws_heldIntS.l0]; rw [if_neg (by simp [marks])]
  | succ d ih =>
    intro p m hb hm hm2
    have ew : wrap64 ((p.length : Int) + 1) = ((p ++ [m]).length : Int) := by rw [w64 (by omega) (by omega)]; simp
    have em : wrap64 (m + 1) = m + 1 := w64 (by omega) (by omega)
    have er : rd (p ++ marks m (d + 1)) (p.length : Int) = m := by simp [rd, marks, List.getD_eq_getElem?_getD]
    refine Ev.step (f := fun k => laws_heldIntS.l0 k ((p ++ [m]) ++ marks (m + 1) d) (m + 1) ((p ++ [m]).length : Int)) (fun k => ?_) (Ev.same (ih (p ++ [m]) (m + 1) (by simp; omega) (by omega) (by omega)) (by omega))
    simp only [laws_heldIntS.l0]
    rw [if_pos (by simp [marks_length]; omega), if_pos (by omega), if_pos er, ew, em]
    simp [marks]
theorem held_f (n : Nat) (hb : n ≤ 4611686018427387904) : Ev (fun k => laws_heldIntS.f k (marks 1 n) 1) (1 + (n : Int)) := by
  refine Ev.congr (f := fun k => laws_heldIntS.l0 k (([] : List Int) ++ marks 1 n) 1 (([] : List Int).length : Int)) (fun k => by simp [laws_heldIntS.f]) (held_l n [] 1 (by simpa using hb) (by omega) (by omega))

/-! ### turned ages -/
def tu (n : Int) : Int := n % 10 * 10 + n / 10
theorem tu_wrap (n : Int) (h0 : 0 ≤ n) (h1 : n ≤ 1000000) : wrap64 ((wrap64 ((Int.tmod n 10) * 10)) + (wrap64 (Int.tdiv n 10))) = tu n := by
  rw [Int.tmod_eq_emod_of_nonneg h0, Int.tdiv_eq_ediv_of_nonneg h0]
  unfold tu
  rw [w64 (x := n % 10 * 10) (by omega) (by omega), w64 (x := n / 10) (by omega) (by omega), w64 (by omega) (by omega)]
theorem kiTurned_f (n : Int) (h0 : 0 ≤ n) (h1 : n ≤ 1000000) : spec_kiTurned.f n = some (tu n) := by unfold spec_kiTurned.f; rw [tu_wrap n h0 h1]
theorem turned_f (n : Int) (h0 : 0 ≤ n) (h1 : n ≤ 1000000) : impl_turned.f n = some (tu n) := by unfold impl_turned.f; rw [tu_wrap n h0 h1]

theorem specTB_l (g : Int) (d : Nat) : ∀ (i : Int) (acc : List Int), 10 ≤ i → i + g + d = max 100 (i + g) → 1 ≤ g → g ≤ 120 → i ≤ 1000 → acc.length + d ≤ 1000 →
    Ev (fun k => spec_TurnedBetween.l0 k g acc i) (acc ++ coll (fun j => decide (tu j = j + g)) (fun j => j) i d, true) := by
  induction d with
  | zero =>
    intro i acc h0 h1 h2 h3 h4 h5
    have e : wrap64 (i + g) = i + g := w64 (by omega) (by omega)
    exact Ev.step (f := fun _ => some (acc, true)) (fun k => by simp only [spec_TurnedBetween.l0]; rw [e, if_neg (by omega)]) (Ev.same (Ev.now _) (by simp [coll]))
  | succ d ih =>
    intro i acc h0 h1 h2 h3 h4 h5
    have e : wrap64 (i + g) = i + g := w64 (by omega) (by omega)
    have ew : wrap64 (i + 1) = i + 1 := w64 (by omega) (by omega)
    by_cases h : tu i = i + g
    · refine Ev.step (f := fun k => spec_TurnedBetween.l0 k g (acc ++ [i]) (i + 1)) (fun k => ?_) (Ev.same (ih (i + 1) (acc ++ [i]) (by omega) (by omega) h2 h3 (by omega) (by simp; omega)) (by simp [coll, h]))
      simp only [spec_TurnedBetween.l0]; rw [e, if_pos (by omega), kiTurned_f i (by omega) (by omega)]
      simp only [Option.bind_some]; rw [if_pos h, if_pos (by omega), ew]
    · refine Ev.step (f := fun k => spec_TurnedBetween.l0 k g acc (i + 1)) (fun k => ?_) (Ev.same (ih (i + 1) acc (by omega) (by omega) h2 h3 (by omega) (by omega)) (by simp [coll, h]))
      simp only [spec_TurnedBetween.l0]; rw [e, if_pos (by omega), kiTurned_f i (by omega) (by omega)]
      simp only [Option.bind_some]; rw [if_neg h, ew]
theorem implTB_l (g : Int) (d : Nat) : ∀ (i : Int) (acc : List Int), 10 ≤ i → i + g + d = max 100 (i + g) → 1 ≤ g → g ≤ 120 → i ≤ 1000 → acc.length + d ≤ 1000 →
    Ev (fun k => impl_TurnedBetween.l0 k g acc i) (acc ++ coll (fun j => decide (tu j = j + g)) (fun j => j) i d, true) := by
  induction d with
  | zero =>
    intro i acc h0 h1 h2 h3 h4 h5
    have e : wrap64 (i + g) = i + g := w64 (by omega) (by omega)
    exact Ev.step (f := fun _ => some (acc, true)) (fun k => by simp only [impl_TurnedBetween.l0]; rw [e, if_neg (by omega)]) (Ev.same (Ev.now _) (by simp [coll]))
  | succ d ih =>
    intro i acc h0 h1 h2 h3 h4 h5
    have e : wrap64 (i + g) = i + g := w64 (by omega) (by omega)
    have ew : wrap64 (i + 1) = i + 1 := w64 (by omega) (by omega)
    by_cases h : tu i = i + g
    · refine Ev.step (f := fun k => impl_TurnedBetween.l0 k g (acc ++ [i]) (i + 1)) (fun k => ?_) (Ev.same (ih (i + 1) (acc ++ [i]) (by omega) (by omega) h2 h3 (by omega) (by simp; omega)) (by simp [coll, h]))
      simp only [impl_TurnedBetween.l0]; rw [e, if_pos (by omega), turned_f i (by omega) (by omega)]
      simp only [Option.bind_some]; rw [if_pos h, if_pos (by omega), ew]
    · refine Ev.step (f := fun k => impl_TurnedBetween.l0 k g acc (i + 1)) (fun k => ?_) (Ev.same (ih (i + 1) acc (by omega) (by omega) h2 h3 (by omega) (by omega)) (by simp [coll, h]))
      simp only [impl_TurnedBetween.l0]; rw [e, if_pos (by omega), turned_f i (by omega) (by omega)]
      simp only [Option.bind_some]; rw [if_neg h, ew]
/-- What both say. -/
def tbOf (g : Int) : List Int := coll (fun j => decide (tu j = j + g)) (fun j => j) 10 (90 - g).toNat
theorem tbOf_length (g : Int) (h : 1 ≤ g) : (tbOf g).length ≤ 1000 := by
  have := coll_length (fun j => decide (tu j = j + g)) (fun j => j) (90 - g).toNat 10
  unfold tbOf
  omega
theorem specTB_f (g : Int) : Ev (fun k => spec_TurnedBetween.f k g) (if 1 ≤ g ∧ g ≤ 120 then (tbOf g, true) else ([], false)) := by
  refine Ev.congr (fun k => by unfold spec_TurnedBetween.f; rfl) (Ev.got (l1In_f g 1 120) ?_)
  by_cases hg : 1 ≤ g ∧ g ≤ 120
  · refine Ev.if_pos (by simpa using hg) (Ev.same (specTB_l g (90 - g).toNat 10 [] (by omega) (by omega) hg.1 hg.2 (by omega) (by simp; omega)) (by rw [if_pos hg]; rfl))
  · exact Ev.if_neg (by simpa using hg) (Ev.same (Ev.now _) (by rw [if_neg hg]))
theorem implTB_f (g : Int) : Ev (fun k => impl_TurnedBetween.f k g) (if 1 ≤ g ∧ g ≤ 120 then (tbOf g, true) else ([], false)) := by
  refine Ev.congr (fun k => by unfold impl_TurnedBetween.f; rfl) (Ev.got (between_f g 1 120) ?_)
  by_cases hg : 1 ≤ g ∧ g ≤ 120
  · refine Ev.if_pos (by simpa using hg) (Ev.same (implTB_l g (90 - g).toNat 10 [] (by omega) (by omega) hg.1 hg.2 (by omega) (by simp; omega)) (by rw [if_pos hg]; rfl))
  · exact Ev.if_neg (by simpa using hg) (Ev.same (Ev.now _) (by rw [if_neg hg]))

theorem FnExactTurnedBetween : laws_FnExactTurnedBetween.Pure := by
  intro a0 w0
  obtain ⟨l, b, hl, hs, hi⟩ : ∃ (l : List Int) (b : Bool), l.length ≤ 4000 ∧ Ev (fun k => spec_TurnedBetween.f k a0) (l, b) ∧ Ev (fun k => impl_TurnedBetween.f k a0) (l, b) := by
    by_cases h : 1 ≤ a0 ∧ a0 ≤ 120
    · exact ⟨tbOf a0, true, Nat.le_trans (tbOf_length a0 h.1) (by omega), Ev.same (specTB_f a0) (by rw [if_pos h]), Ev.same (implTB_f a0) (by rw [if_pos h])⟩
    · exact ⟨[], false, by simp, Ev.same (specTB_f a0) (by rw [if_neg h]), Ev.same (implTB_f a0) (by rw [if_neg h])⟩
  apply Ev.rounds
  refine Ev.bind hs (Ev.bind hi (Ev.bind (eq_self l (by omega)) (Ev.if_pos rfl ?_)))
  refine Ev.step (fun k => by simp only [laws_FnExactTurnedBetween.j0]; rfl) ?_
  refine Ev.if_neg (by simp) (Ev.bind (mark_f l (by omega)) (Ev.bind (held_f l.length (by omega)) (Ev.if_neg (by omega) (Ev.if_pos rfl (Ev.bind hi (Ev.bind (eq_self l (by omega)) (Ev.if_pos rfl ?_)))))))
  refine Ev.step (fun k => by simp only [laws_FnExactTurnedBetween.j1]; rfl) ?_
  exact Ev.if_neg (by simp) (Ev.bind (held_f l.length (by omega)) (Ev.if_neg (by omega) (Ev.if_pos rfl (Ev.now _))))

end Go.Proofs.Ytglgikhmiijdcaa.Pure
