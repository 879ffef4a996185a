import Derived.Test.YtbdgeknaddaekaaLRows
import Derived.Test.YtbdgeknaddaekaaLTwos
namespace Go.Proofs.Ytbdgeknaddaekaa.P
open Go.RowKit Go.Proofs.YtbdgeknaddaekaaW.PrintWords Go.Proofs.YtbdgeknaddaekaaW.PrintLast Go.Proofs.YtbdgeknaddaekaaW.PrintMore
set_option linter.unusedVariables false
set_option linter.unusedSimpArgs false

theorem cells_twos {n : Nat} {s : List (List Int)} (h : Twos n s) : cells s ≤ 2 * (n : Int) := by
  have key : ∀ s : List (List Int), (∀ x ∈ s, x.length = 2) → cells s = 2 * (s.length : Int) := by
    intro s
    induction s with
    | nil => intro _; rfl
    | cons x xs ih =>
      intro hx
      have h1 := hx x (by simp)
      have h2 := ih (fun y hy => hx y (by simp [hy]))
      simp only [cells, List.length_cons]
      omega
  have := key s h.2
  have := h.1
  omega

end Go.Proofs.Ytbdgeknaddaekaa.P
