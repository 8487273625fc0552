/- The program's NewConsole returns what the reference's returns: it takes nothing, so the walk is one value. -/
import Derived.Test.YtjokajioaoiceaaSayFnExactNewConsole
namespace Go.Proofs.Ytjokajioaoiceaa.Pure
open Go.RowKit Go.Proofs.Ytjokajioaoiceaa.S Go.Proofs.YtjokajioaoiceaaW.PrintWords Go.Proofs.YtjokajioaoiceaaW.PrintLast
set_option linter.unusedVariables false
set_option linter.unusedSimpArgs false

theorem FnExactNewConsole : laws_FnExactNewConsole.Pure := ⟨40, by decide +kernel⟩

end Go.Proofs.Ytjokajioaoiceaa.Pure
