/- The same for 19 blocks. -/
import Derived.Test.YtcmphfcpiciehaaBProd
namespace Go.Proofs.Ytcmphfcpiciehaa.Pure
open Go.RowKit Go.Proofs.Ytcmphfcpiciehaa.Print Go.Proofs.YtcmphfcpiciehaaW.PrintWords Go.Proofs.YtcmphfcpiciehaaW.PrintLast Go.Proofs.YtcmphfcpiciehaaW.PrintMore
theorem okC19_0 : (((partsI 12 20 19)).take 100).all (okC 19) = true := by decide +kernel
theorem okC19_1 : ((((partsI 12 20 19)).drop 100).take 100).all (okC 19) = true := by decide +kernel
theorem okC19_2 : (((((partsI 12 20 19)).drop 100).drop 100).take 100).all (okC 19) = true := by decide +kernel
theorem okC19_3 : ((((((partsI 12 20 19)).drop 100).drop 100).drop 100).take 100).all (okC 19) = true := by decide +kernel
theorem okC19_4 : ((((((partsI 12 20 19)).drop 100).drop 100).drop 100).drop 100).all (okC 19) = true := by decide +kernel
theorem okC19 : (partsI 12 20 19).all (okC 19) = true := all_parts 100 okC19_0 (all_parts 100 okC19_1 (all_parts 100 okC19_2 (all_parts 100 okC19_3 okC19_4)))
end Go.Proofs.Ytcmphfcpiciehaa.Pure
