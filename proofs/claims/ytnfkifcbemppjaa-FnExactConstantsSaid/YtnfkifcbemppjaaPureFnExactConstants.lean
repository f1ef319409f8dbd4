/- The constants of the program are those that the document names. No condition. -/
import Derived.Test.YtnfkifcbemppjaaPFnExactConstantsx1
namespace Go.Proofs.Ytnfkifcbemppjaa.Pure
open Go.RowKit Go.Proofs.Ytnfkifcbemppjaa.PFnExactConstants Go.Proofs.YtnfkifcbemppjaaW.PrintWords Go.Proofs.YtnfkifcbemppjaaW.PrintLast

theorem FnExactConstants : laws_FnExactConstants.Pure := rfl

end Go.Proofs.Ytnfkifcbemppjaa.Pure
