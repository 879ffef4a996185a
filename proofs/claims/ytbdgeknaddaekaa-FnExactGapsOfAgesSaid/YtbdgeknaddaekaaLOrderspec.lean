import Derived.Test.YtbdgeknaddaekaaLAges
import Derived.Test.YtbdgeknaddaekaaLBase
import Derived.Test.YtbdgeknaddaekaaLOrder
import Derived.Test.YtbdgeknaddaekaaP11
namespace Go.Proofs.Ytbdgeknaddaekaa.P
open Go.RowKit Go.Proofs.YtbdgeknaddaekaaW.PrintWords Go.Proofs.YtbdgeknaddaekaaW.PrintLast Go.Proofs.YtbdgeknaddaekaaW.PrintMore
set_option linter.unusedVariables false
set_option linter.unusedSimpArgs false

/-! ### people by their ages: the reference's -/
theorem own_f {q : List Int} (h : q.length ≤ 1000) : spec_l1Own.f q = some q := by
  unfold spec_l1Own.f
  simp only [Option.bind_some, List.length_nil, List.nil_append]
  rw [if_pos (by omega)]
theorem ord_put {l : List Int} (x : Nat) (hx : x < 1000) (p1 p2 : List Int) (hb : p1.length + p2.length ≤ 100) (r : List Int) (h : Ev (fun k => spec_agOrder.l0 k l (p1 ++ ((x : Int) :: p2)) l (l.length : Int) ((x + 1 : Nat) : Int)) r) :
    Ev (fun k => if (p1.length : Int) ≤ ((p1 ++ p2).length : Int) then ((spec_l1Own.f ((p1 ++ p2).take ((p1.length : Int)).toNat)).bind fun t388 => (if t388.length < 17592186044416 then ((some (t388 ++ [(x : Int)] : List Int)).bind fun y391 => ((some ((p1 ++ p2).drop ((p1.length : Int)).toNat : List Int)).bind fun y394 => (if y391.length + y394.length < 17592186044416 then (spec_agOrder.l0 k l (y391 ++ y394) l (l.length : Int) (wrap64 ((x : Int) + 1))) else (none)))) else (none))) else (none)) r := by
  have ew : wrap64 ((x : Int) + 1) = ((x + 1 : Nat) : Int) := by rw [w64 (by omega) (by omega)]; omega
  refine Ev.if_pos (by simp; omega) ?_
  rw [Int.toNat_natCast]
  have e1 : (p1 ++ p2).take p1.length = p1 := List.take_left
  have e2 : (p1 ++ p2).drop p1.length = p2 := List.drop_left
  refine Ev.got (by rw [e1]; exact own_f (by omega)) (Ev.if_pos (by omega) ?_)
  refine Ev.got rfl (Ev.got rfl ?_)
  rw [e2]
  refine Ev.if_pos (by simp; omega) ?_
  rw [ew, show p1 ++ [(x : Int)] ++ p2 = p1 ++ ((x : Int) :: p2) by simp]
  exact h
theorem ord_l1 {l : List Int} (hl : l.length ≤ 8) (x : Nat) (hx : x < l.length) (p2 : List Int) : ∀ (p1 r : List Int), AgeOk l p2 → p1.length + p2.length ≤ 100 →
    Ev (fun k => spec_agOrder.l0 k l (p1 ++ insF l (x : Int) p2) l (l.length : Int) ((x + 1 : Nat) : Int)) r → Ev (fun k => spec_agOrder.l1 k l (p1 ++ p2) (x : Int) (rd l (x : Int)) (p1.length : Int) l (l.length : Int) (x : Int)) r := by
  induction p2 with
  | nil =>
    intro p1 r _ hb h
    refine Ev.step (fun k => by simp only [spec_agOrder.l1]; rw [if_neg (show ¬ (p1.length : Int) < ((p1 ++ ([] : List Int)).length : Int) by simp)]) ?_
    exact Ev.if_pos (show 0 ≤ (p1.length : Int) by omega) (ord_put x (by omega) p1 [] hb r h)
  | cons y p2 ih =>
    intro p1 r hok hb h
    have hy := hok y (by simp)
    simp only [List.length_cons] at hb
    have er : rd (p1 ++ y :: p2) (p1.length : Int) = y := rd_mid p1 y p2
    have ew : wrap64 ((p1.length : Int) + 1) = ((p1 ++ [y]).length : Int) := by rw [w64 (by omega) (by omega)]; simp
    refine Ev.step (fun k => by simp only [spec_agOrder.l1]; rw [if_pos (show (p1.length : Int) < ((p1 ++ y :: p2).length : Int) by simp; omega), if_pos (show 0 ≤ (p1.length : Int) by omega), er, if_pos hy.1, if_pos hy.2]) ?_
    rw [insF] at h
    by_cases c : rd l y ≥ rd l (x : Int)
    · rw [if_pos c] at h
      refine Ev.if_pos c ?_
      rw [ew]
      have := ih (p1 ++ [y]) r (fun z hz => hok z (by simp [hz])) (by simp; omega) (by simpa using h)
      simpa using this
    · rw [if_neg c] at h
      refine Ev.if_neg c ?_
      exact ord_put x (by omega) p1 (y :: p2) (by simp; omega) r h
theorem agOrder_l {l : List Int} (hg : goodB l = true) (d : Nat) : ∀ i, i + d = l.length → Ev (fun k => spec_agOrder.l0 k l (sortN l i) l (l.length : Int) (i : Int)) (sortN l l.length) := by
  have hl := good_len hg
  induction d with
  | zero =>
    intro i hi
    have e : i = l.length := by omega
    subst e
    exact Ev.step (f := fun _ => some (sortN l l.length)) (fun k => by simp only [spec_agOrder.l0]; rw [if_neg (by omega)]) (Ev.now _)
  | succ d ih =>
    intro i hi
    refine Ev.step (fun k => by simp only [spec_agOrder.l0]; rw [if_pos (show (i : Int) < (l.length : Int) by omega), if_pos (show 0 ≤ (i : Int) by omega), if_pos (show (i : Int) < (l.length : Int) by omega)]) ?_
    exact ord_l1 hl.2 i (by omega) (sortN l i) [] _ (fun z hz => by have := sortN_mem l i z hz; omega) (by rw [sortN_length]; simp; omega) (ih (i + 1) (by omega))
theorem agOrder_f {l : List Int} (hg : goodB l = true) : Ev (fun k => spec_agOrder.f k l) (sortN l l.length) := by
  refine Ev.congr (fun k => by unfold spec_agOrder.f; rfl) ?_
  exact agOrder_l hg l.length 0 (by omega)
def orOf (l : List Int) : List Int × Bool := if goodB l = true then (sortN l l.length, true) else ([], false)
theorem orOf_length (l : List Int) : (orOf l).1.length ≤ 9 := by
  unfold orOf
  split
  · rename_i h; have := good_len h; rw [sortN_length]; omega
  · simp
theorem specOr_f (l : List Int) : Ev (fun k => spec_OrderOfAges.f k l) (orOf l) := by
  refine Ev.congr (fun k => by unfold spec_OrderOfAges.f; rfl) ?_
  refine Ev.bind (agGood_f l) ?_
  unfold orOf
  cases hg : goodB l with
  | true => exact Ev.if_pos rfl (Ev.bind (agOrder_f hg) (Ev.same (Ev.now _) (by simp)))
  | false => exact Ev.if_neg (show ¬ (false = true) by decide) (Ev.same (Ev.now _) (by simp))
theorem implOr_f (l : List Int) : impl_OrderOfAges.f l = some (orOf l) := by
  unfold impl_OrderOfAges.f orOf
  rw [areAges_f]
  simp only [Option.bind_some]
  cases hg : goodB l with
  | true => rw [if_pos rfl, order_f hg]; rfl
  | false => rfl

end Go.Proofs.Ytbdgeknaddaekaa.P
