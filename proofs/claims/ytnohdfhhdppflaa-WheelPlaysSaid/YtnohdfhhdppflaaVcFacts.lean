/- A closed fact on the program that the walks use. -/
import Derived.Test.YtnohdfhhdppflaaChecked
import Derived.Test.YtnohdfhhdppflaaVcShort
import Derived.KernelRfl
namespace Go.Proofs.Ytnohdfhhdppflaa.Fa
open Go Go.Vc
theorem mixed : Try.prog.follows .mixedOrders = true := by kernel_rfl
end Go.Proofs.Ytnohdfhhdppflaa.Fa
