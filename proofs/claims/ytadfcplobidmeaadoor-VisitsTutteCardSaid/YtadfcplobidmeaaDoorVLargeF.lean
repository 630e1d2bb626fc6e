/- The visits' plain laws: Largest of the program is the first largest matching. -/
import Derived.Test.YtadfcplobidmeaaDoorVLargeV
namespace Go.Proofs.YtadfcplobidmeaaDoor.Pure
open Go.RowKit Go.Proofs.YtadfcplobidmeaaDoor.Print Go.Proofs.YtadfcplobidmeaaDoorW.PrintWords Go.Proofs.YtadfcplobidmeaaDoorW.PrintLast Go.Proofs.YtadfcplobidmeaaDoorW.PrintMore
def firstV (l : List Int) : List S43 × Int := if isShop l = true then (first1 l, 0) else ([], 2)
theorem nu_small {l : List Int} (hS : Shop l) : nu l (full l) ≤ 10 := by
  have h := first_length hS
  have : ∀ m L a, (scan l L a m).length ≤ m := by
    intro m
    induction m with
    | zero => exact fun L a => Nat.le_refl _
    | succ m ih =>
      intro L a
      simp only [scan]
      cases rowF l L a (a + 1) m with
      | none => exact Nat.le_succ_of_le (ih L (a + 1))
      | some b =>
        simp only [List.length_cons]
        exact Nat.succ_le_succ (ih _ (a + 1))
  have h2 := this l.length (full l) 0
  have hl := hS.le
  unfold first1 at h
  omega
theorem vLargest_f (l : List Int) (k : Nat) (hk : 30000 ≤ k) : visits_Largest.f k l = some (firstV l) := by
  unfold visits_Largest.f firstV
  rw [read_f l k (by omega), Option.bind_some]
  cases h : isShop l
  · rw [if_neg (by decide), if_neg (by decide)]
  · have hS := (isShop_iff l).1 h
    have hn := nu_small hS
    rw [if_pos rfl, if_pos rfl, all_f l hS.le, Option.bind_some, Option.bind_some]
    show ((visits_shop_pairs.f k l ((full l : Nat) : Int)).bind _) = _
    rw [pairs_f hS _ (full_lt l) k (by omega), Option.bind_some]
    have := large_at hS _ (full l) [] (full_lt l) rfl (by simp only [List.length_nil]; omega) k (by unfold F0; omega)
    rw [List.nil_append] at this
    exact this
end Go.Proofs.YtadfcplobidmeaaDoor.Pure
