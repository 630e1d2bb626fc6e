/- VisitsNeeds: Needed and Starts are the specification's. -/
import Derived.Test.YtadfcplobidmeaaDoorVNeed
namespace Go.Proofs.YtadfcplobidmeaaDoor.Pure
open Go.RowKit Go.Proofs.YtadfcplobidmeaaDoor.Print Go.Proofs.YtadfcplobidmeaaDoorW.PrintWords Go.Proofs.YtadfcplobidmeaaDoorW.PrintLast Go.Proofs.YtadfcplobidmeaaDoorW.PrintMore
theorem VisitsNeeds : clochelaw03_VisitsNeeds.Pure := by
  intro l _ _ _
  refine ⟨50001, ?_⟩
  unfold clochelaw03_VisitsNeeds.f
  rw [few0, Option.bind_some, alive_f 50001 (by decide), Option.bind_some]
  by_cases h : l.length ≤ 40
  · have e2 : ((needV l).2 != (needV l).2) = false := by simp
    rw [if_pos (decide_eq_true h), vNeeded_f l 50001 (by decide), Option.bind_some, rNeeded_f l 50001 (by decide), Option.bind_some, if_pos rfl, e2]
    show clochelaw03_VisitsNeeds.j0 (50000 + 1) l false = some true
    simp only [clochelaw03_VisitsNeeds.j0]
    rw [if_neg (by decide), vStarts_f l 50000 (by decide), Option.bind_some, rStarts_f l 50000 (by decide), Option.bind_some, if_pos rfl, if_pos rfl, alive_f 50000 (by decide)]
    rfl
  · rw [if_neg (fun c => h (of_decide_eq_true c))]
end Go.Proofs.YtadfcplobidmeaaDoor.Pure
