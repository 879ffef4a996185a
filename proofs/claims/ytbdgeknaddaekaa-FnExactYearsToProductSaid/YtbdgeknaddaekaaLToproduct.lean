import Derived.Test.YtbdgeknaddaekaaLAges
import Derived.Test.YtbdgeknaddaekaaLAlly
import Derived.Test.YtbdgeknaddaekaaLBase
import Derived.Test.YtbdgeknaddaekaaLInyears
import Derived.Test.YtbdgeknaddaekaaLProduct
import Derived.Test.YtbdgeknaddaekaaLRange
import Derived.Test.YtbdgeknaddaekaaLYears
import Derived.Test.YtbdgeknaddaekaaP6
namespace Go.Proofs.Ytbdgeknaddaekaa.P
open Go.RowKit Go.Proofs.YtbdgeknaddaekaaW.PrintWords Go.Proofs.YtbdgeknaddaekaaW.PrintLast Go.Proofs.YtbdgeknaddaekaaW.PrintMore
set_option linter.unusedVariables false
set_option linter.unusedSimpArgs false

/-! ### the last year with a product of at most so much -/
def downOf (q : Int → Bool) : Int → Nat → Int × Bool
  | _, 0 => (0, false)
  | y, d + 1 => if q y = true then (y, true) else downOf q (y - 1) d
theorem coll_snoc (q : Int → Bool) (f : Int → Int) (d : Nat) : ∀ y, coll q f y (d + 1) = coll q f y d ++ (if q (y + d) = true then [f (y + d)] else []) := by
  induction d with
  | zero => intro y; simp [coll]
  | succ d ih =>
    intro y
    have e : y + 1 + (d : Int) = y + ((d + 1 : Nat) : Int) := by omega
    have h := ih (y + 1)
    rw [e] at h
    rw [show coll q f y (d + 1 + 1) = (if q y = true then f y :: coll q f (y + 1) (d + 1) else coll q f (y + 1) (d + 1)) from rfl, h, show coll q f y (d + 1) = (if q y = true then f y :: coll q f (y + 1) d else coll q f (y + 1) d) from rfl]
    by_cases hq : q y = true <;> simp [hq]
/-- What a list's last number tells. -/
def lastOf (z : List Int) : Int × Bool := if z.length = 0 then (0, false) else (rd z ((z.length : Int) - 1), true)
theorem lastOf_snoc (z : List Int) (x : Int) : lastOf (z ++ [x]) = (x, true) := by
  unfold lastOf
  rw [if_neg (by simp)]
  have e : (((z ++ [x]).length : Int) - 1) = ((z.length : Nat) : Int) := by simp
  rw [e, rd_at _ _ (by simp)]
  simp
theorem down_last (q : Int → Bool) (d : Nat) : ∀ lo : Int, downOf q (lo + d - 1) d = lastOf (coll q (fun j => j) lo d) := by
  induction d with
  | zero => intro lo; rfl
  | succ d ih =>
    intro lo
    rw [coll_snoc]
    have e : lo + ((d + 1 : Nat) : Int) - 1 = lo + (d : Int) := by omega
    rw [e]
    simp only [downOf]
    by_cases hq : q (lo + (d : Int)) = true
    · rw [if_pos hq, if_pos hq, lastOf_snoc]
    · rw [if_neg hq, if_neg hq, List.append_nil]; exact ih lo
def tpQ (l : List Int) (m y : Int) : Bool := decide (prodW (inY l y) 1 ≤ m)
def tpOk (l : List Int) (m : Int) : Prop := goodB l = true ∧ 0 ≤ m
instance (l : List Int) (m : Int) : Decidable (tpOk l m) := inferInstanceAs (Decidable (_ ∧ _))
def tpOf (l : List Int) (m : Int) : Int × Bool := if tpOk l m then lastOf (coll (tpQ l m) (fun j => j) (loY l) (nY l)) else (0, false)
theorem specTP_l (l : List Int) (m : Int) (hg : goodB l = true) (d : Nat) : ∀ y, y - d = loY l - 1 → y ≤ hiY l → Ev (fun k => spec_YearsToProduct.l0 k l m (loY l) y) (downOf (tpQ l m) y d) := by
  have hb := range_bounds hg
  have hl := good_len hg
  induction d with
  | zero =>
    intro y h1 h2
    exact Ev.step (f := fun _ => some (0, false)) (fun k => by simp only [spec_YearsToProduct.l0]; rw [if_neg (by omega)]) (Ev.now _)
  | succ d ih =>
    intro y h1 h2
    have ew : wrap64 (y - 1) = y - 1 := w64 (by omega) (by omega)
    refine Ev.step (fun k => by simp only [spec_YearsToProduct.l0]; rw [if_pos (show y ≥ loY l by omega), ew]) (Ev.bind (agIn_f l y (by omega)) (Ev.bind (agProduct_f (inY l y) (by rw [inY_length]; omega)) ?_))
    by_cases h : prodW (inY l y) 1 ≤ m
    · exact Ev.if_pos h (Ev.same (Ev.now _) (by simp [downOf, tpQ, h]))
    · exact Ev.if_neg h (Ev.same (ih (y - 1) (by omega) (by omega)) (by simp [downOf, tpQ, h]))
theorem specTP_f (l : List Int) (m : Int) : Ev (fun k => spec_YearsToProduct.f k l m) (tpOf l m) := by
  have bad : ∀ (h : ¬ tpOk l m) (c : Bool) (hc : c = true), Ev (fun k => spec_YearsToProduct.j0 k l m c) (tpOf l m) := by
    intro h c hc
    subst hc
    exact Ev.step (f := fun _ => some (0, false)) (fun k => by simp only [spec_YearsToProduct.j0, if_true]) (Ev.same (Ev.now _) (by unfold tpOf; rw [if_neg h]))
  refine Ev.congr (fun k => by unfold spec_YearsToProduct.f; rfl) (Ev.bind (agGood_f l) ?_)
  cases hg : goodB l with
  | true =>
    have hb := range_bounds hg
    have hn := nY_eq hg
    refine Ev.if_pos rfl ?_
    by_cases hm : m < 0
    · exact bad (fun h => by have := h.2; omega) _ (by simpa using hm)
    · refine Ev.step (fun k => by simp only [spec_YearsToProduct.j0]; rw [if_neg (by simpa using hm)]) (Ev.bind (agRange_f hg) (Ev.same (specTP_l l m hg (nY l) (hiY l) (by omega) (Int.le_refl _)) ?_))
      unfold tpOf
      rw [if_pos ⟨hg, by omega⟩, ← down_last]
      congr 1
      omega
  | false => exact Ev.if_neg (by simp) (bad (fun h => by have q := h.1; rw [hg] at q; simp at q) _ rfl)
theorem implTP_f (l : List Int) (m : Int) : Ev (fun k => impl_YearsToProduct.f k l m) (tpOf l m) := by
  refine Ev.congr (fun k => by unfold impl_YearsToProduct.f; rfl) (Ev.got (areAges_f l) ?_)
  cases hg : goodB l with
  | true =>
    have hl := good_len hg
    refine Ev.if_pos rfl ?_
    by_cases hm : m < 0
    · exact Ev.if_pos hm (Ev.same (Ev.now _) (by unfold tpOf; rw [if_neg (fun h => by have := h.2; omega)]))
    · refine Ev.if_neg hm (Ev.bind (allY_f _ (tpQ l m) hg (fun y _ _ => ?_)) ?_)
      · exact Ev.bind (Ev.bind (product_f (inY l y) (by rw [inY_length]; omega)) (Ev.now _)) (Ev.same (Ev.now _) rfl)
      · have e : tpOf l m = lastOf (coll (tpQ l m) (fun j => j) (loY l) (nY l)) := by unfold tpOf; rw [if_pos ⟨hg, by omega⟩]
        rw [e]
        generalize coll (tpQ l m) (fun j => j) (loY l) (nY l) = z
        unfold lastOf
        by_cases hz : z.length = 0
        · exact Ev.if_pos hz (Ev.same (Ev.now (0, false)) (by rw [if_pos hz]))
        · exact Ev.if_neg hz (Ev.same (Ev.now (rd z ((z.length : Int) - 1), true)) (by rw [if_neg hz]))
  | false => exact Ev.if_neg (by simp) (Ev.same (Ev.now _) (by unfold tpOf; rw [if_neg (fun h => by have q := h.1; rw [hg] at q; simp at q)]))

end Go.Proofs.Ytbdgeknaddaekaa.P
