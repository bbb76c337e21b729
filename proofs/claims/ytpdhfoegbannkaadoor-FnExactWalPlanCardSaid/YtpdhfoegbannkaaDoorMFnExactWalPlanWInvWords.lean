import Derived.Test.YtpdhfoegbannkaaDoorMFnExactWalPlanWInv
import Derived.Test.YtpdhfoegbannkaaDoorMFnExactWalPlanWFootNe
namespace Go.Proofs.YtpdhfoegbannkaaDoorW.PrintWords
open Go.RowKit
end Go.Proofs.YtpdhfoegbannkaaDoorW.PrintWords
namespace Go.Proofs.YtpdhfoegbannkaaDoorW.PrintLast
section
variable {ops : Array Oper} {a : Act} {o og : Oper} {g : Nat} {t : Tmp} {u : Bool}
end
end Go.Proofs.YtpdhfoegbannkaaDoorW.PrintLast

