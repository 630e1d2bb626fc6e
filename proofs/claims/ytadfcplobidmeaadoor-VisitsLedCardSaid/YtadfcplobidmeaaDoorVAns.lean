/- The visits' plain laws: Answer of the program. -/
import Derived.Test.YtadfcplobidmeaaDoorVMatch
import Derived.Test.YtadfcplobidmeaaDoorPrintx34
namespace Go.Proofs.YtadfcplobidmeaaDoor.Pure
open Go.RowKit Go.Proofs.YtadfcplobidmeaaDoor.Print Go.Proofs.YtadfcplobidmeaaDoorW.PrintWords Go.Proofs.YtadfcplobidmeaaDoorW.PrintLast Go.Proofs.YtadfcplobidmeaaDoorW.PrintMore
def ansL (a : Int) : List S43 → Int × Int
  | [] => (-1, 0)
  | x :: t => if a = x.f0 then (x.f1, 0) else if a = x.f1 then (x.f0, 0) else ansL a t
theorem vans_l0 (p : List S43) (hp : p.length ≤ 1000) (a : Int) : ∀ (m i k : Nat), i + m = p.length → m + 1 ≤ k → visits_Answer.l0 k a p (p.length : Int) (i : Int) = some (ansL a (p.drop i))
  | 0, i, k, hi, hk => by
    obtain ⟨k, rfl, _⟩ := succK (show 0 < k by omega)
    simp only [visits_Answer.l0]
    rw [if_neg (by omega), List.drop_eq_nil_of_le (by omega)]
    rfl
  | m + 1, i, k, hi, hk => by
    obtain ⟨k, rfl, _⟩ := succK (show 0 < k by omega)
    simp only [visits_Answer.l0]
    rw [if_pos (by omega), if_pos (by omega), if_pos (by omega), drop_getT (by omega), rdT, inc64 i (by omega), vans_l0 p hp a m (i + 1) k (by omega) (by omega)]
    simp only [ansL]
    split
    · rfl
    · split <;> rfl
def ansV (l : List Int) (p : List S43) (a : Int) : Int × Int := if (isShop l && isMat l p && decide (0 ≤ a) && decide (a < (l.length : Int))) = true then ansL a p else (0, 2)
theorem vAnswer_f (l : List Int) (p : List S43) (hp : p.length ≤ 1000) (a : Int) (k : Nat) (hk : 2000 ≤ k) : visits_Answer.f k l p a = some (ansV l p a) := by
  obtain ⟨k, rfl, _⟩ := succK (show 0 < k by omega)
  have hl0 := vans_l0 p hp a p.length 0 k (by omega) (by omega)
  rw [show ((0 : Nat) : Int) = 0 from rfl, List.drop_zero] at hl0
  unfold visits_Answer.f ansV
  rw [read_f l (k + 1) (by omega), Option.bind_some]
  simp only [visits_Answer.j0, hl0]
  cases h : isShop l
  · simp
  · rw [vmat_f ((isShop_iff l).1 h) p hp (k + 1) (by omega), Option.bind_some, if_pos rfl, Bool.true_and]
    cases isMat l p
    · simp
    · rw [if_pos rfl, Bool.true_and]
      by_cases h1 : a < 0
      · rw [if_pos h1, decide_eq_false (show ¬ 0 ≤ a by omega)]
        simp
      · rw [if_neg h1, decide_eq_true (show 0 ≤ a by omega), Bool.true_and]
        by_cases h2 : a < (l.length : Int)
        · rw [decide_eq_true h2, decide_eq_false (show ¬ a ≥ (l.length : Int) by omega), if_pos rfl, if_neg (by decide)]
        · rw [decide_eq_false h2, decide_eq_true (show a ≥ (l.length : Int) by omega), if_pos rfl, if_neg (by decide)]
end Go.Proofs.YtadfcplobidmeaaDoor.Pure
