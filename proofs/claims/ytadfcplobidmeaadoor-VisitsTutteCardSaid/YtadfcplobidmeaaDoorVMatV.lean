/- The visits' plain laws: IsMatching of the program. -/
import Derived.Test.YtadfcplobidmeaaDoorVMatch
namespace Go.Proofs.YtadfcplobidmeaaDoor.Pure
open Go.RowKit Go.Proofs.YtadfcplobidmeaaDoor.Print Go.Proofs.YtadfcplobidmeaaDoorW.PrintWords Go.Proofs.YtadfcplobidmeaaDoorW.PrintLast Go.Proofs.YtadfcplobidmeaaDoorW.PrintMore
def matV (l : List Int) (p : List S43) : Bool × Int := if isShop l = true then (isMat l p, 0) else (false, 2)
theorem vIsMatching_f (l : List Int) (p : List S43) (hp : p.length ≤ 1000) (k : Nat) (hk : 1100 ≤ k) : visits_IsMatching.f k l p = some (matV l p) := by
  unfold visits_IsMatching.f matV
  rw [read_f l k (by omega), Option.bind_some]
  cases h : isShop l
  · rw [if_neg (by decide), if_neg (by decide)]
  · rw [if_pos rfl, if_pos rfl, vmat_f ((isShop_iff l).1 h) p hp k hk, Option.bind_some]
end Go.Proofs.YtadfcplobidmeaaDoor.Pure
