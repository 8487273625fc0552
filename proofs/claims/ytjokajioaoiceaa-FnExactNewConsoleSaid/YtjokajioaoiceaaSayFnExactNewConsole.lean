/- What is to be proved of the law FnExactNewConsole: over numbers and lists alone. -/
import Derived.Test.YtjokajioaoiceaaS23
namespace Go.Proofs.Ytjokajioaoiceaa.S
open Go.RowKit Go.Proofs.YtjokajioaoiceaaW.PrintWords Go.Proofs.YtjokajioaoiceaaW.PrintLast
def laws_FnExactNewConsole.Pure : Prop := ∃ k, laws_FnExactNewConsole.f k  = some true
end Go.Proofs.Ytjokajioaoiceaa.S
