import Derived.Test.YtbdgeknaddaekaaLAges
import Derived.Test.YtbdgeknaddaekaaLBase
import Derived.Test.YtbdgeknaddaekaaLInyears
import Derived.Test.YtbdgeknaddaekaaLRange
namespace Go.Proofs.Ytbdgeknaddaekaa.P
open Go.RowKit Go.Proofs.YtbdgeknaddaekaaW.PrintWords Go.Proofs.YtbdgeknaddaekaaW.PrintLast Go.Proofs.YtbdgeknaddaekaaW.PrintMore
set_option linter.unusedVariables false
set_option linter.unusedSimpArgs false

/-! ### years looked through, one by one -/
def firstOf (q : Int → Bool) : Int → Nat → Int × Bool
  | _, 0 => (0, false)
  | y, d + 1 => if q y = true then (y, true) else firstOf q (y + 1) d
theorem loop_first {g : Nat → Int → Option (Int × Bool)} {q : Int → Bool} {lo hi : Int} (hs : ∀ (y : Int) (r : Int × Bool), lo ≤ y → y ≤ hi → Ev (fun k => g k (y + 1)) r → Ev (fun k => g k y) (if q y = true then (y, true) else r))
    (h0 : Ev (fun k => g k (hi + 1)) (0, false)) (d : Nat) : ∀ y, lo ≤ y → y + d = hi + 1 → Ev (fun k => g k y) (firstOf q y d) := by
  induction d with
  | zero =>
    intro y h1 h2
    have : y = hi + 1 := by omega
    subst this
    exact h0
  | succ d ih =>
    intro y h1 h2
    exact hs y _ h1 (by omega) (ih (y + 1) (by omega) (by omega))
theorem loop_all {β : Type} {g : Nat → List Int → Int → Option β} {q : Int → Bool} {lo hi : Int} (F : List Int → β) (hs : ∀ (acc : List Int) (y : Int) (r : β), lo ≤ y → y ≤ hi → acc.length ≤ 1000 → Ev (fun k => g k (if q y = true then acc ++ [y] else acc) (y + 1)) r → Ev (fun k => g k acc y) r)
    (h0 : ∀ acc : List Int, Ev (fun k => g k acc (hi + 1)) (F acc)) (d : Nat) : ∀ (y : Int) (acc : List Int), lo ≤ y → y + d = hi + 1 → acc.length + d ≤ 1000 → Ev (fun k => g k acc y) (F (acc ++ coll q (fun j => j) y d)) := by
  induction d with
  | zero =>
    intro y acc h1 h2 _
    have : y = hi + 1 := by omega
    subst this
    simpa [coll] using h0 acc
  | succ d ih =>
    intro y acc h1 h2 h3
    refine hs acc y _ h1 (by omega) (by omega) ?_
    by_cases hq : q y = true
    · have := ih (y + 1) (acc ++ [y]) (by omega) (by omega) (by simp; omega)
      simp only [if_pos hq]
      simpa [coll, hq] using this
    · have := ih (y + 1) acc (by omega) (by omega) (by omega)
      simp only [if_neg hq]
      simpa [coll, hq] using this
/-- How many years are fit. -/
def nY (l : List Int) : Nat := (hiY l + 1 - loY l).toNat
theorem nY_eq {l : List Int} (hg : goodB l = true) : loY l + (nY l : Int) = hiY l + 1 ∧ nY l ≤ 241 := by
  have := range_bounds hg
  unfold nY
  omega
theorem inY_rd {l : List Int} {y i : Int} (h0 : 0 ≤ i) (h1 : i < (l.length : Int)) : rd (inY l y) i = wrap64 (rd l i + y) := by
  obtain ⟨n, rfl⟩ := Int.eq_ofNat_of_zero_le h0
  rw [rd_at l n (by omega), rd_at (inY l y) n (by rw [inY_length]; omega)]
  simp [inY]
theorem inY_fit {l : List Int} (hg : goodB l = true) {y : Int} (h0 : loY l ≤ y) (h1 : y ≤ hiY l) : inY l y = l.map (· + y) := by
  unfold inY
  refine List.map_congr_left fun x hx => ?_
  have := (fit_iff (good_len hg).1 y).mp ⟨h0, h1⟩ x hx
  exact w64 (by omega) (by omega)
theorem rd_fit {l : List Int} (hg : goodB l = true) {y i : Int} (h0 : loY l ≤ y) (h1 : y ≤ hiY l) (i0 : 0 ≤ i) (i1 : i < (l.length : Int)) : 0 ≤ rd l i + y ∧ rd l i + y ≤ 120 ∧ wrap64 (rd l i + y) = rd l i + y := by
  have := (fit_iff (good_len hg).1 y).mp ⟨h0, h1⟩ _ (rd_mem i0 i1)
  exact ⟨this.1, this.2, w64 (by omega) (by omega)⟩

end Go.Proofs.Ytbdgeknaddaekaa.P
