/- The same for 20 blocks. -/
import Derived.Test.YtcmphfcpiciehaaBProd
namespace Go.Proofs.Ytcmphfcpiciehaa.Pure
open Go.RowKit Go.Proofs.Ytcmphfcpiciehaa.Print Go.Proofs.YtcmphfcpiciehaaW.PrintWords Go.Proofs.YtcmphfcpiciehaaW.PrintLast Go.Proofs.YtcmphfcpiciehaaW.PrintMore
theorem okC20_0 : (((partsI 12 20 20)).take 100).all (okC 20) = true := by decide +kernel
theorem okC20_1 : ((((partsI 12 20 20)).drop 100).take 100).all (okC 20) = true := by decide +kernel
theorem okC20_2 : (((((partsI 12 20 20)).drop 100).drop 100).take 100).all (okC 20) = true := by decide +kernel
theorem okC20_3 : ((((((partsI 12 20 20)).drop 100).drop 100).drop 100).take 100).all (okC 20) = true := by decide +kernel
theorem okC20_4 : (((((((partsI 12 20 20)).drop 100).drop 100).drop 100).drop 100).take 100).all (okC 20) = true := by decide +kernel
theorem okC20_5 : ((((((((partsI 12 20 20)).drop 100).drop 100).drop 100).drop 100).drop 100).take 100).all (okC 20) = true := by decide +kernel
theorem okC20_6 : ((((((((partsI 12 20 20)).drop 100).drop 100).drop 100).drop 100).drop 100).drop 100).all (okC 20) = true := by decide +kernel
theorem okC20 : (partsI 12 20 20).all (okC 20) = true := all_parts 100 okC20_0 (all_parts 100 okC20_1 (all_parts 100 okC20_2 (all_parts 100 okC20_3 (all_parts 100 okC20_4 (all_parts 100 okC20_5 okC20_6)))))
end Go.Proofs.Ytcmphfcpiciehaa.Pure
