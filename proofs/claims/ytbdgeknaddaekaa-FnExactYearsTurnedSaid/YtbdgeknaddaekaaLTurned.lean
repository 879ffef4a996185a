import Derived.Test.YtbdgeknaddaekaaLBase
import Derived.Test.YtbdgeknaddaekaaP6
import Derived.Test.YtbdgeknaddaekaaP7
namespace Go.Proofs.Ytbdgeknaddaekaa.P
open Go.RowKit Go.Proofs.YtbdgeknaddaekaaW.PrintWords Go.Proofs.YtbdgeknaddaekaaW.PrintLast Go.Proofs.YtbdgeknaddaekaaW.PrintMore
set_option linter.unusedVariables false
set_option linter.unusedSimpArgs false

/-! ### turned ages -/
def tu (n : Int) : Int := n % 10 * 10 + n / 10
theorem tu_wrap (n : Int) (h0 : 0 ≤ n) (h1 : n ≤ 1000000) : wrap64 ((wrap64 ((Int.tmod n 10) * 10)) + (wrap64 (Int.tdiv n 10))) = tu n := by
  rw [Int.tmod_eq_emod_of_nonneg h0, Int.tdiv_eq_ediv_of_nonneg h0]
  unfold tu
  rw [w64 (x := n % 10 * 10) (by omega) (by omega), w64 (x := n / 10) (by omega) (by omega), w64 (by omega) (by omega)]
theorem kiTurned_f (n : Int) (h0 : 0 ≤ n) (h1 : n ≤ 1000000) : spec_kiTurned.f n = some (tu n) := by unfold spec_kiTurned.f; rw [tu_wrap n h0 h1]
theorem turned_f (n : Int) (h0 : 0 ≤ n) (h1 : n ≤ 1000000) : impl_turned.f n = some (tu n) := by unfold impl_turned.f; rw [tu_wrap n h0 h1]

end Go.Proofs.Ytbdgeknaddaekaa.P
