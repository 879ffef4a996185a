import Derived.Test.YtbdgeknaddaekaaDoorLBase
import Derived.Test.YtbdgeknaddaekaaDoorP2
import Derived.Test.YtbdgeknaddaekaaDoorP4
namespace Go.Proofs.YtbdgeknaddaekaaDoor.P
open Go.RowKit Go.Proofs.YtbdgeknaddaekaaDoorW.PrintWords Go.Proofs.YtbdgeknaddaekaaDoorW.PrintLast Go.Proofs.YtbdgeknaddaekaaDoorW.PrintMore
set_option linter.unusedVariables false
set_option linter.unusedSimpArgs false

/-! ### two slices compared; a slice marked and looked at again -/
theorem eq_l (l m : List Int) (hl : l.length = m.length) (hb : l.length ≤ 4611686018427387904) (d : Nat) : ∀ (i : Nat), i + d = l.length →
    Ev (fun k => laws_eqIntS.l0 k l m (i : Int)) (decide (l.drop i = m.drop i)) := by
  induction d with
  | zero =>
    intro i hi
    refine Ev.step (f := fun _ => some true) (fun k => ?_) (Ev.same (Ev.now true) ?_)
    · simp only [laws_eqIntS.l0]; rw [if_neg (by omega)]
    · rw [List.drop_of_length_le (by omega), List.drop_of_length_le (by omega)]; simp
  | succ d ih =>
    intro i hi
    have h1 : l.drop i = l[i]'(by omega) :: l.drop (i + 1) := List.drop_eq_getElem_cons (by omega)
    have h2 : m.drop i = m[i]'(by omega) :: m.drop (i + 1) := List.drop_eq_getElem_cons (by omega)
    have e1 : rd l (i : Int) = l[i]'(by omega) := by simp [rd, List.getD_eq_getElem?_getD, List.getElem?_eq_getElem (show i < l.length by omega)]
    have e2 : rd m (i : Int) = m[i]'(by omega) := by simp [rd, List.getD_eq_getElem?_getD, List.getElem?_eq_getElem (show i < m.length by omega)]
    have ew : wrap64 ((i : Int) + 1) = ((i + 1 : Nat) : Int) := by rw [w64 (by omega) (by omega)]; omega
    by_cases he : l[i]'(by omega) = m[i]'(by omega)
    · refine Ev.step (f := fun k => laws_eqIntS.l0 k l m ((i + 1 : Nat) : Int)) (fun k => ?_) (Ev.same (ih (i + 1) (by omega)) ?_)
      · simp only [laws_eqIntS.l0]
        rw [if_pos (by omega), if_pos (by omega), if_pos (by omega), e1, e2, if_pos he, ew]
      · refine decide_eq_decide.mpr ⟨fun h => by rw [h1, h2, he, h], fun h => ?_⟩
        rw [h1, h2] at h
        exact (List.cons.inj h).2
    · refine Ev.step (f := fun _ => some false) (fun k => ?_) (Ev.same (Ev.now false) ?_)
      · simp only [laws_eqIntS.l0]
        rw [if_pos (by omega), if_pos (by omega), if_pos (by omega), e1, e2, if_neg he]
      · refine (decide_eq_false fun h => he ?_).symm
        rw [h1, h2] at h
        exact (List.cons.inj h).1
theorem eq_f (l m : List Int) (hb : l.length ≤ 4611686018427387904) : Ev (fun k => laws_eqIntS.f k l m) (decide (l = m)) := by
  by_cases hl : l.length = m.length
  · refine Ev.congr (f := fun k => laws_eqIntS.l0 k l m 0) (fun k => ?_) (Ev.same (eq_l l m hl hb l.length 0 (by omega)) (by simp))
    simp only [laws_eqIntS.f]; rw [if_pos (by omega)]
  · refine Ev.congr (f := fun _ => some false) (fun k => ?_) (Ev.same (Ev.now false) ?_)
    · simp only [laws_eqIntS.f]; rw [if_neg (by omega)]
    · have : l ≠ m := fun e => hl (by rw [e])
      simp [this]
theorem eq_self (l : List Int) (hb : l.length ≤ 4611686018427387904) : Ev (fun k => laws_eqIntS.f k l l) true := Ev.same (eq_f l l hb) (by simp)
def marks : Int → Nat → List Int
  | _, 0 => []
  | m, d + 1 => m :: marks (m + 1) d
theorem marks_length (d : Nat) : ∀ m, (marks m d).length = d := by
  induction d with
  | zero => intro m; rfl
  | succ d ih => intro m; simp [marks, ih]
theorem mark_l (d : Nat) : ∀ (x : List Int) (m : Int) (i : Nat), i + d = x.length → x.length ≤ 4611686018427387904 → 0 ≤ m → m + d ≤ 4611686018427387905 →
    Ev (fun k => laws_markIntS.l0 k x m (i : Int)) (m + d, x.take i ++ marks m d) := by
  induction d with
  | zero =>
    intro x m i hi hb hm hm2
    refine Ev.step (f := fun _ => some (m, x)) (fun k => ?_) (Ev.same (Ev.now _) ?_)
    · simp only [laws_markIntS.l0]; rw [if_neg (by omega)]
    · rw [List.take_of_length_le (by omega)]; simp [marks]
  | succ d ih =>
    intro x m i hi hb hm hm2
    have ew : wrap64 ((i : Int) + 1) = ((i + 1 : Nat) : Int) := by rw [w64 (by omega) (by omega)]; omega
    have em : wrap64 (m + 1) = m + 1 := w64 (by omega) (by omega)
    refine Ev.step (f := fun k => laws_markIntS.l0 k (x.set i m) (m + 1) ((i + 1 : Nat) : Int)) (fun k => ?_) (Ev.same (ih (x.set i m) (m + 1) (i + 1) (by simp; omega) (by simp; omega) (by omega) (by omega)) ?_)
    · simp only [laws_markIntS.l0]
      rw [if_pos (by omega), if_pos (by omega), ew, em]; simp
    · have : (x.set i m).take (i + 1) = x.take i ++ [m] := by
        rw [List.take_succ_eq_append_getElem (by simp; omega), List.take_set_of_le (Nat.le_refl _)]; simp
      rw [this]
      simp only [marks, List.append_assoc, List.singleton_append, Prod.mk.injEq, and_true]
      omega
theorem mark_f (x : List Int) (hb : x.length ≤ 4611686018427387904) : Ev (fun k => laws_markIntS.f k x 1) (1 + (x.length : Int), marks 1 x.length) := by
  refine Ev.congr (f := fun k => laws_markIntS.l0 k x 1 0) (fun k => rfl) (Ev.same (mark_l x.length x 1 0 (by omega) hb (by omega) (by omega)) (by simp))
theorem held_l (d : Nat) : ∀ (p : List Int) (m : Int), p.length + d ≤ 4611686018427387904 → 0 ≤ m → m + d ≤ 4611686018427387905 →
    Ev (fun k => laws_heldIntS.l0 k (p ++ marks m d) m (p.length : Int)) (m + d) := by
  induction d with
  | zero =>
    intro p m hb hm hm2
    refine Ev.step (f := fun _ => some m) (fun k => ?_) (Ev.same (Ev.now _) (by simp))
    simp only [laws_heldIntS.l0]; rw [if_neg (by simp [marks])]
  | succ d ih =>
    intro p m hb hm hm2
    have ew : wrap64 ((p.length : Int) + 1) = ((p ++ [m]).length : Int) := by rw [w64 (by omega) (by omega)]; simp
    have em : wrap64 (m + 1) = m + 1 := w64 (by omega) (by omega)
    have er : rd (p ++ marks m (d + 1)) (p.length : Int) = m := by simp [rd, marks, List.getD_eq_getElem?_getD]
    refine Ev.step (f := fun k => laws_heldIntS.l0 k ((p ++ [m]) ++ marks (m + 1) d) (m + 1) ((p ++ [m]).length : Int)) (fun k => ?_) (Ev.same (ih (p ++ [m]) (m + 1) (by simp; omega) (by omega) (by omega)) (by omega))
    simp only [laws_heldIntS.l0]
    rw [if_pos (by simp [marks_length]; omega), if_pos (by omega), if_pos er, ew, em]
    simp [marks]
theorem held_f (n : Nat) (hb : n ≤ 4611686018427387904) : Ev (fun k => laws_heldIntS.f k (marks 1 n) 1) (1 + (n : Int)) := by
  refine Ev.congr (f := fun k => laws_heldIntS.l0 k (([] : List Int) ++ marks 1 n) 1 (([] : List Int).length : Int)) (fun k => by simp [laws_heldIntS.f]) (held_l n [] 1 (by simpa using hb) (by omega) (by omega))

end Go.Proofs.YtbdgeknaddaekaaDoor.P
