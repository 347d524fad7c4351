/- Gcd of num and the small functions of the laws of chapter 08 on the machine: what each returns. -/
import Derived.Test.YtgamkmgdbfeigaaT3
namespace Go.Proofs.YtgamkmgdbfeigaaM
open Go Go.RowKit
set_option linter.unusedSimpArgs false
variable {X : Contracts}
end Go.Proofs.YtgamkmgdbfeigaaM
