/- The same for 17 blocks and for 18. -/
import Derived.Test.YtcmphfcpiciehaaBProd
namespace Go.Proofs.Ytcmphfcpiciehaa.Pure
open Go.RowKit Go.Proofs.Ytcmphfcpiciehaa.Print Go.Proofs.YtcmphfcpiciehaaW.PrintWords Go.Proofs.YtcmphfcpiciehaaW.PrintLast Go.Proofs.YtcmphfcpiciehaaW.PrintMore
theorem okC17_0 : (((partsI 12 20 17)).take 100).all (okC 17) = true := by decide +kernel
theorem okC17_1 : ((((partsI 12 20 17)).drop 100).take 100).all (okC 17) = true := by decide +kernel
theorem okC17_2 : ((((partsI 12 20 17)).drop 100).drop 100).all (okC 17) = true := by decide +kernel
theorem okC17 : (partsI 12 20 17).all (okC 17) = true := all_parts 100 okC17_0 (all_parts 100 okC17_1 okC17_2)
theorem okC18_0 : (((partsI 12 20 18)).take 100).all (okC 18) = true := by decide +kernel
theorem okC18_1 : ((((partsI 12 20 18)).drop 100).take 100).all (okC 18) = true := by decide +kernel
theorem okC18_2 : (((((partsI 12 20 18)).drop 100).drop 100).take 100).all (okC 18) = true := by decide +kernel
theorem okC18_3 : (((((partsI 12 20 18)).drop 100).drop 100).drop 100).all (okC 18) = true := by decide +kernel
theorem okC18 : (partsI 12 20 18).all (okC 18) = true := all_parts 100 okC18_0 (all_parts 100 okC18_1 (all_parts 100 okC18_2 okC18_3))
end Go.Proofs.Ytcmphfcpiciehaa.Pure
