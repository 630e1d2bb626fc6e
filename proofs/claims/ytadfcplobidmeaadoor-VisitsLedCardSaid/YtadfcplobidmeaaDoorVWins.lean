/- The visits' plain laws: Wins and Move at a set that has the last hat. -/
import Derived.Test.YtadfcplobidmeaaDoorVGame
namespace Go.Proofs.YtadfcplobidmeaaDoor.Pure
open Go.RowKit Go.Proofs.YtadfcplobidmeaaDoor.Print Go.Proofs.YtadfcplobidmeaaDoorW.PrintWords Go.Proofs.YtadfcplobidmeaaDoorW.PrintLast Go.Proofs.YtadfcplobidmeaaDoorW.PrintMore
theorem askB_mk {l : List Int} (hS : Shop l) {V x : Nat} (hV : V < 2 ^ l.length) (hx : x < l.length) (hb : V.testBit x = true) : askB l (V : Int) (x : Int) = true := by
  unfold askB
  rw [(isShop_iff l).2 hS, decide_eq_true (by refine ⟨?_, ?_, ?_, ?_⟩ <;> omega), Int.toNat_natCast, Int.toNat_natCast, hb]
  rfl
theorem wins_at {l : List Int} (hS : Shop l) {V x : Nat} (hV : V < 2 ^ l.length) (hx : x < l.length) (hb : V.testBit x = true) (k : Nat) (hk : 30000 ≤ k) : visits_Wins.f k l (V : Int) (x : Int) = some (gw l V x, 0) := by
  unfold visits_Wins.f
  rw [asked_f l _ _ k (by omega), Option.bind_some, askB_mk hS hV hx hb, if_pos rfl, wins_f hS V x k hV hx hk, Option.bind_some]
end Go.Proofs.YtadfcplobidmeaaDoor.Pure
