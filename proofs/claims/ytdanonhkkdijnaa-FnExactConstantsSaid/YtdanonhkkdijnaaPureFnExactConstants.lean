/- Every constant of the program is the document's: the law's plain function answers true. No conditions. -/
import Derived.Test.YtdanonhkkdijnaaPFnExactConstantsx1
namespace Go.Proofs.Ytdanonhkkdijnaa.Pure
open Go.RowKit Go.Proofs.Ytdanonhkkdijnaa.PFnExactConstants Go.Proofs.YtdanonhkkdijnaaW.PrintWords Go.Proofs.YtdanonhkkdijnaaW.PrintLast
theorem FnExactConstants : laws_FnExactConstants.Pure := rfl
end Go.Proofs.Ytdanonhkkdijnaa.Pure
