import Derived.SizedLaws
import Derived.ChangeSlices
namespace Go.Proofs.YtpdhfoegbannkaaDoorW.PrintWords
open Go.ChangeShapes Go.WideShapes
end Go.Proofs.YtpdhfoegbannkaaDoorW.PrintWords

