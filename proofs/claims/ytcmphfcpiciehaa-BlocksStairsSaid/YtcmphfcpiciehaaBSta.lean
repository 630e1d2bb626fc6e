/- The blocks' plain laws: the cores for two wires are the stairs; no core comes twice. -/
import Derived.Test.YtcmphfcpiciehaaBCor
namespace Go.Proofs.Ytcmphfcpiciehaa.Pure
open Go.RowKit Go.Proofs.Ytcmphfcpiciehaa.Print Go.Proofs.YtcmphfcpiciehaaW.PrintWords Go.Proofs.YtcmphfcpiciehaaW.PrintLast Go.Proofs.YtcmphfcpiciehaaW.PrintMore
/-- the least k of which the stairs have at least n blocks. -/
def kq (n : Nat) : Nat := ((List.range 7).find? (fun k => decide (n ≤ k * (k + 1) / 2))).getD 0
def stair (k : Nat) : List Int := (List.range k).map (fun i => ((k - i : Nat) : Int))
theorem kqAll : ((List.range 21).all fun n => decide (kq n ≤ 6) && decide (n ≤ kq n * (kq n + 1) / 2) && (List.range (kq n)).all fun j => decide (j * (j + 1) / 2 < n)) = true := by decide +kernel
theorem stairsAll : ((List.range 21).all fun n => decide (coresL 2 n = if kq n * (kq n + 1) / 2 = n then [stair (kq n)] else [])) = true := by decide +kernel
end Go.Proofs.Ytcmphfcpiciehaa.Pure
