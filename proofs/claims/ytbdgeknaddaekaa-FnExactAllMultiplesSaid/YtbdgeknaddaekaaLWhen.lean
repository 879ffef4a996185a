import Derived.Test.YtbdgeknaddaekaaP0
namespace Go.Proofs.Ytbdgeknaddaekaa.P
open Go.RowKit Go.Proofs.YtbdgeknaddaekaaW.PrintWords Go.Proofs.YtbdgeknaddaekaaW.PrintLast Go.Proofs.YtbdgeknaddaekaaW.PrintMore
set_option linter.unusedVariables false
set_option linter.unusedSimpArgs false

/-! ### the end of a law whose answer is a row of rows -/
theorem Ev.when {α : Type} {g : Nat → Option α} {v : α} [DecidableEq α] (h : Ev g v) {β : Type} {f e : Nat → Option β} {r : β} (hf : Ev f r) : Ev (fun k => if g k = some v then f k else e k) r := by
  obtain ⟨K, h⟩ := h
  obtain ⟨K2, h2⟩ := hf
  exact ⟨max K K2, fun k hk => by
    have e1 := h k (by omega)
    simp only [e1, if_true]
    exact h2 k (by omega)⟩

end Go.Proofs.Ytbdgeknaddaekaa.P
