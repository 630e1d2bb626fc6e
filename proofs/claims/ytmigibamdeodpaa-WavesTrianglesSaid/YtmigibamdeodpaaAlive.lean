/- The awake part of the waves' statements, computed by the kernel. -/
import Derived.Test.YtmigibamdeodpaaPrintx9
namespace Go.Proofs.Ytmigibamdeodpaa.Pure
open Go.RowKit Go.Proofs.Ytmigibamdeodpaa.Print Go.Proofs.YtmigibamdeodpaaW.PrintWords Go.Proofs.YtmigibamdeodpaaW.PrintLast
theorem alive40 : clochelaw05_alive.f 40 = some true := by decide +kernel
end Go.Proofs.Ytmigibamdeodpaa.Pure
