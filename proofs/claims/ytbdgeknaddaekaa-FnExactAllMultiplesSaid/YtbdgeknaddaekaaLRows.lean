import Derived.Test.YtbdgeknaddaekaaLBase
import Derived.Test.YtbdgeknaddaekaaLEqint
import Derived.Test.YtbdgeknaddaekaaP0
import Derived.Test.YtbdgeknaddaekaaP1
import Derived.Test.YtbdgeknaddaekaaP4
namespace Go.Proofs.Ytbdgeknaddaekaa.P
open Go.RowKit Go.Proofs.YtbdgeknaddaekaaW.PrintWords Go.Proofs.YtbdgeknaddaekaaW.PrintLast Go.Proofs.YtbdgeknaddaekaaW.PrintMore
set_option linter.unusedVariables false
set_option linter.unusedSimpArgs false

/-! ### rows of rows: compared, marked, looked at again -/
theorem rdL_at (l : List (List Int)) (i : Nat) (h : i < l.length) : rd_L1 l (i : Int) = l[i] := by simp [rd_L1, List.getD_eq_getElem?_getD, List.getElem?_eq_getElem h]
theorem eqSS_l (s : List (List Int)) (hb : s.length ≤ 1048576) (hr : ∀ x ∈ s, x.length ≤ 1048576) (d : Nat) : ∀ (i : Nat), i + d = s.length → Ev (fun k => laws_eqIntSS.l0 k s s (i : Int)) true := by
  induction d with
  | zero =>
    intro i hi
    exact Ev.step (f := fun _ => some true) (fun k => by simp only [laws_eqIntSS.l0]; rw [if_neg (by omega)]) (Ev.now _)
  | succ d ih =>
    intro i hi
    have ew : wrap64 ((i : Int) + 1) = ((i + 1 : Nat) : Int) := by rw [w64 (by omega) (by omega)]; omega
    have hx := hr s[i] (List.getElem_mem (by omega))
    refine Ev.step (fun k => by simp only [laws_eqIntSS.l0]; rw [if_pos (show (i : Int) < (s.length : Int) by omega), if_pos (show 0 ≤ (i : Int) by omega), if_pos (show (i : Int) < (s.length : Int) by omega), ew, rdL_at s i (by omega)]) ?_
    exact Ev.bind (eq_self s[i] (by omega)) (Ev.if_pos rfl (ih (i + 1) (by omega)))
theorem eqSS_f (s : List (List Int)) (hb : s.length ≤ 1048576) (hr : ∀ x ∈ s, x.length ≤ 1048576) : Ev (fun k => laws_eqIntSS.f k s s) true := by
  refine Ev.congr (fun k => by unfold laws_eqIntSS.f; rfl) ?_
  exact Ev.if_pos rfl (eqSS_l s hb hr s.length 0 (by omega))
/-- All cells numbered on from m. -/
def marksS : Int → List (List Int) → List (List Int)
  | _, [] => []
  | m, x :: xs => marks m x.length :: marksS (m + x.length) xs
def cells : List (List Int) → Int
  | [] => 0
  | x :: xs => x.length + cells xs
theorem cells_nonneg (l : List (List Int)) : 0 ≤ cells l := by
  induction l with
  | nil => exact Int.le_refl _
  | cons x xs ih => simp only [cells]; omega
theorem mark_from (x : List Int) (m : Int) (hb : x.length ≤ 1048576) (h0 : 0 ≤ m) (h1 : m ≤ 4000000000000000000) : Ev (fun k => laws_markIntS.f k x m) (m + (x.length : Int), marks m x.length) := by
  refine Ev.congr (f := fun k => laws_markIntS.l0 k x m 0) (fun k => rfl) (Ev.same (mark_l x.length x m 0 (by omega) (by omega) h0 (by omega)) (by simp))
theorem held_from (n : Nat) (m : Int) (hb : n ≤ 1048576) (h0 : 0 ≤ m) (h1 : m ≤ 4000000000000000000) : Ev (fun k => laws_heldIntS.f k (marks m n) m) (m + (n : Int)) := by
  refine Ev.congr (f := fun k => laws_heldIntS.l0 k (([] : List Int) ++ marks m n) m (([] : List Int).length : Int)) (fun k => by simp [laws_heldIntS.f]) (held_l n [] m (by simp; omega) h0 (by omega))
theorem markSS_l (xs : List (List Int)) : ∀ (p : List (List Int)) (m : Int), p.length + xs.length ≤ 1048576 → (∀ x ∈ xs, x.length ≤ 1048576) → 0 ≤ m → m + cells xs ≤ 4000000000000000000 → Ev (fun k => laws_markIntSS.l0 k (p ++ xs) m (p.length : Int)) (m + cells xs, p ++ marksS m xs) := by
  induction xs with
  | nil =>
    intro p m hb hr h0 h1
    exact Ev.step (f := fun _ => some (m, p ++ [])) (fun k => by simp only [laws_markIntSS.l0]; rw [if_neg (by simp)]) (Ev.same (Ev.now _) (by simp [cells, marksS]))
  | cons x xs ih =>
    intro p m hb hr h0 h1
    simp only [cells, List.length_cons] at hb h1
    have hx := hr x (by simp)
    have hc := cells_nonneg xs
    have ew : wrap64 ((p.length : Int) + 1) = ((p ++ [marks m x.length]).length : Int) := by rw [w64 (by omega) (by omega)]; simp
    have eg : (p ++ x :: xs).getD (p.length : Int).toNat [] = x := by simp [List.getD_eq_getElem?_getD]
    have es : ∀ z, (p ++ x :: xs).set (p.length : Int).toNat z = (p ++ [z]) ++ xs := by intro z; simp
    refine Ev.step (fun k => by simp only [laws_markIntSS.l0]; rw [if_pos (show (p.length : Int) < ((p ++ x :: xs).length : Int) by simp; omega), if_pos (show 0 ≤ (p.length : Int) by omega), eg]) ?_
    refine Ev.bind (mark_from x m hx h0 (by omega)) ?_
    simp only [es, ew]
    exact Ev.same (ih (p ++ [marks m x.length]) (m + x.length) (by simp; omega) (fun y hy => hr y (by simp [hy])) (by omega) (by omega)) (by simp only [cells, marksS, List.append_assoc, List.singleton_append, Prod.mk.injEq, and_true]; omega)
theorem markSS_f (s : List (List Int)) (hb : s.length ≤ 1048576) (hr : ∀ x ∈ s, x.length ≤ 1048576) (hc : cells s ≤ 1000000000000) : Ev (fun k => laws_markIntSS.f k s 1) (1 + cells s, marksS 1 s) :=
  Ev.congr (f := fun k => laws_markIntSS.l0 k (([] : List (List Int)) ++ s) 1 (([] : List (List Int)).length : Int)) (fun k => by simp [laws_markIntSS.f]) (Ev.same (markSS_l s [] 1 (by simpa using hb) hr (by omega) (by omega)) (by simp))
theorem heldSS_l (xs : List (List Int)) : ∀ (p : List (List Int)) (m : Int), p.length + xs.length ≤ 1048576 → (∀ x ∈ xs, x.length ≤ 1048576) → 0 ≤ m → m + cells xs ≤ 4000000000000000000 → Ev (fun k => laws_heldIntSS.l0 k (p ++ marksS m xs) m (p.length : Int)) (m + cells xs) := by
  induction xs with
  | nil =>
    intro p m hb hr h0 h1
    exact Ev.step (f := fun _ => some m) (fun k => by simp only [laws_heldIntSS.l0]; rw [if_neg (by simp [marksS])]) (Ev.same (Ev.now _) (by simp [cells]))
  | cons x xs ih =>
    intro p m hb hr h0 h1
    simp only [cells, List.length_cons] at hb h1
    have hx := hr x (by simp)
    have hc := cells_nonneg xs
    have ew : wrap64 ((p.length : Int) + 1) = ((p ++ [marks m x.length]).length : Int) := by rw [w64 (by omega) (by omega)]; simp
    have eg : rd_L1 (p ++ marksS m (x :: xs)) (p.length : Int) = marks m x.length := by simp [rd_L1, marksS, List.getD_eq_getElem?_getD]
    have es : p ++ marksS m (x :: xs) = (p ++ [marks m x.length]) ++ marksS (m + x.length) xs := by simp [marksS]
    refine Ev.step (fun k => by simp only [laws_heldIntSS.l0]; rw [if_pos (show (p.length : Int) < ((p ++ marksS m (x :: xs)).length : Int) by simp [marksS]; omega), if_pos (show 0 ≤ (p.length : Int) by omega), eg]) ?_
    refine Ev.bind (held_from x.length m hx h0 (by omega)) (Ev.if_neg (show ¬ (m + (x.length : Int) < 0) by omega) ?_)
    rw [ew, es]
    exact Ev.same (ih (p ++ [marks m x.length]) (m + x.length) (by simp; omega) (fun y hy => hr y (by simp [hy])) (by omega) (by omega)) (by simp only [cells]; omega)
theorem heldSS_f (s : List (List Int)) (hb : s.length ≤ 1048576) (hr : ∀ x ∈ s, x.length ≤ 1048576) (hc : cells s ≤ 1000000000000) : Ev (fun k => laws_heldIntSS.f k (marksS 1 s) 1) (1 + cells s) :=
  Ev.congr (f := fun k => laws_heldIntSS.l0 k (([] : List (List Int)) ++ marksS 1 s) 1 (([] : List (List Int)).length : Int)) (fun k => by simp [laws_heldIntSS.f]) (heldSS_l s [] 1 (by simpa using hb) hr (by omega) (by omega))

end Go.Proofs.Ytbdgeknaddaekaa.P
