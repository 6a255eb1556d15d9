/- The constants of the program are those of the document: the law answers true. No condition. -/
import Derived.Test.YtggjjhbdpionpaaPFnExactConstantsx1
namespace Go.Proofs.Ytggjjhbdpionpaa.Pure
open Go.RowKit Go.Proofs.Ytggjjhbdpionpaa.PFnExactConstants Go.Proofs.YtggjjhbdpionpaaW.PrintWords Go.Proofs.YtggjjhbdpionpaaW.PrintLast

theorem FnExactConstants : laws_FnExactConstants.Pure := rfl

end Go.Proofs.Ytggjjhbdpionpaa.Pure
