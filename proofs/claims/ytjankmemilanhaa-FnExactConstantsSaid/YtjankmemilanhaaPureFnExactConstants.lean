/- The program's constants are those of the document: the plain half. No condition. -/
import Derived.Test.YtjankmemilanhaaPFnExactConstantsx1
import Derived.Test.YtjankmemilanhaaAid
namespace Go.Proofs.Ytjankmemilanhaa.Pure
open Go.RowKit Go.Proofs.Ytjankmemilanhaa.PFnExactConstants Go.Proofs.YtjankmemilanhaaW.PrintWords Go.Proofs.YtjankmemilanhaaW.PrintLast Go.Proofs.Ytjankmemilanhaa.Aid

theorem FnExactConstants : laws_FnExactConstants.Pure := rfl

end Go.Proofs.Ytjankmemilanhaa.Pure
