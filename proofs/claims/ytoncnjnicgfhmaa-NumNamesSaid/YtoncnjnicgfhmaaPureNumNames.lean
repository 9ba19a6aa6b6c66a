/- NumNames answers true: the limit's and errors' numbers, and the chapter's examples. -/
import Derived.Test.YtoncnjnicgfhmaaQ4
import Derived.Test.YtoncnjnicgfhmaaNumTake
namespace Go.Proofs.Ytoncnjnicgfhmaa.Pure
open Go.RowKit Go.Proofs.Ytoncnjnicgfhmaa.Q Go.Proofs.YtoncnjnicgfhmaaW.PrintWords Go.Proofs.YtoncnjnicgfhmaaW.PrintLast Go.Proofs.Ytoncnjnicgfhmaa.NumPure

theorem NumNames : beadrolllaw01_NumNames.Pure := ⟨40, by decide +kernel⟩

end Go.Proofs.Ytoncnjnicgfhmaa.Pure
