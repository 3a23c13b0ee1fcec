/- Each constant is as the reference has it. No conditions. -/
import Derived.Test.YthaffjolcghkoaaPFnExactConstantsx1
import Derived.Test.YthaffjolcghkoaaBit
set_option linter.unusedVariables false
set_option linter.unusedSimpArgs false
namespace Go.Proofs.Ythaffjolcghkoaa.Pure
open Go.RowKit Go.Proofs.Ythaffjolcghkoaa Go.Proofs.Ythaffjolcghkoaa.PFnExactConstants Go.Proofs.YthaffjolcghkoaaW.PrintWords Go.Proofs.YthaffjolcghkoaaW.PrintLast Go.Proofs.Ythaffjolcghkoaa.Bit


theorem FnExactConstants : laws_FnExactConstants.Pure := rfl

end Go.Proofs.Ythaffjolcghkoaa.Pure
