/- The program's constants are those that the reference names: the law returns true. -/
import Derived.Test.YtkbehnnnfiakgaaPFnExactConstantsx1
namespace Go.Proofs.Ytkbehnnnfiakgaa.Pure
open Go.RowKit Go.Proofs.Ytkbehnnnfiakgaa.PFnExactConstants Go.Proofs.YtkbehnnnfiakgaaW.PrintWords Go.Proofs.YtkbehnnnfiakgaaW.PrintLast Go.Proofs.YtkbehnnnfiakgaaW.PrintMore

theorem FnExactConstants : laws_FnExactConstants.Pure := by
  unfold laws_FnExactConstants.Pure laws_FnExactConstants.f
  rfl

end Go.Proofs.Ytkbehnnnfiakgaa.Pure
