import Derived.Test.YtbdgeknaddaekaaP0
namespace Go.Proofs.Ytbdgeknaddaekaa.P
open Go.RowKit Go.Proofs.YtbdgeknaddaekaaW.PrintWords Go.Proofs.YtbdgeknaddaekaaW.PrintLast Go.Proofs.YtbdgeknaddaekaaW.PrintMore
set_option linter.unusedVariables false
set_option linter.unusedSimpArgs false

/-! ### rows of two numbers each -/
def Twos (n : Nat) (s : List (List Int)) : Prop := s.length ≤ n ∧ ∀ x ∈ s, x.length = 2

end Go.Proofs.Ytbdgeknaddaekaa.P
