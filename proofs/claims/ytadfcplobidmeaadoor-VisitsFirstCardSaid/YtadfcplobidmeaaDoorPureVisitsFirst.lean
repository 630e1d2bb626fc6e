/- VisitsFirst: no matching with as many pairs is less than Largest. -/
import Derived.Test.YtadfcplobidmeaaDoorVQm
import Derived.Test.YtadfcplobidmeaaDoorVMatV
import Derived.Test.YtadfcplobidmeaaDoorPrintx24
namespace Go.Proofs.YtadfcplobidmeaaDoor.Pure
open Go.RowKit Go.Proofs.YtadfcplobidmeaaDoor.Print Go.Proofs.YtadfcplobidmeaaDoorW.PrintWords Go.Proofs.YtadfcplobidmeaaDoorW.PrintLast Go.Proofs.YtadfcplobidmeaaDoorW.PrintMore
theorem lex_l0 (p x : List S43) (hp : p.length ≤ 1000) (hx : x.length = p.length) : ∀ (m i k : Nat), i + m = p.length → 60 + m + 1 ≤ k → lexB (p.drop i) (x.drop i) = true → clochelaw03_VisitsFirst.l0 k p x (i : Int) = some true
  | 0, i, k, hi, hk, _ => by
    obtain ⟨k, rfl, _⟩ := succK (show 0 < k by omega)
    rw [clochelaw03_VisitsFirst.l0, if_neg (by omega), alive_f k (by omega), Option.bind_some]
  | m + 1, i, k, hi, hk, h => by
    obtain ⟨k, rfl, _⟩ := succK (show 0 < k by omega)
    rw [drop_getT (show i < p.length by omega), drop_getT (show i < x.length by omega)] at h
    simp only [lexB] at h
    rw [clochelaw03_VisitsFirst.l0, if_pos (by omega), if_pos (by omega), if_pos (by omega), rdT, rdT, inc64 i (by omega), alive_f k (by omega), Option.bind_some]
    by_cases c : ((p.getD i z43).f0 == (x.getD i z43).f0 && (p.getD i z43).f1 == (x.getD i z43).f1) = true
    · rw [if_pos c] at h
      rw [if_neg (by rw [Bool.and_eq_true] at c; rw [c.1, c.2]; decide)]
      exact lex_l0 p x hp hx m (i + 1) k (by omega) (by omega) h
    · rw [if_neg c] at h
      rw [if_pos (by
        revert c
        cases (p.getD i z43).f0 == (x.getD i z43).f0 <;> cases (p.getD i z43).f1 == (x.getD i z43).f1 <;> decide)]
      rcases of_decide_eq_true h with h1 | ⟨h1, h2⟩
      · rw [if_pos h1]
      · rw [if_neg (by omega), if_pos h1, if_pos h2]
theorem VisitsFirst (l : List Int) (p : List S43) : ∃ k, clochelaw03_VisitsFirst.f k l p = some true := by
  refine ⟨60001, ?_⟩
  have hj : clochelaw03_VisitsFirst.j0 60001 l p true = some true := by
    rw [clochelaw03_VisitsFirst.j0, if_pos rfl, alive_f 60000 (by decide), Option.bind_some]
  unfold clochelaw03_VisitsFirst.f
  rw [few_f, Option.bind_some]
  by_cases h : (decide (l.length ≤ 40) && decide (p.length ≤ 40)) = true
  · have hp : l.length ≤ 40 ∧ p.length ≤ 40 := by
      rw [Bool.and_eq_true] at h
      exact ⟨of_decide_eq_true h.1, of_decide_eq_true h.2⟩
    rw [if_pos h, IsShop_f l 60001 (by decide), Option.bind_some]
    cases hs : isShop l
    · exact hj
    · have hS := (isShop_iff l).1 hs
      rw [clochelaw03_VisitsFirst.j0, if_neg (by decide), vLargest_f l 60000 (by decide), Option.bind_some, vIsMatching_f l p (by omega) 60000 (by decide), Option.bind_some]
      unfold firstV matV
      rw [if_pos hs, if_pos hs, if_pos rfl, clochelaw03_VisitsFirst.j1, if_neg (show ¬ ((0 : Int) != 0) = true by decide)]
      have h2 : clochelaw03_VisitsFirst.j2 59999 p (first1 l) true = some true := by
        rw [clochelaw03_VisitsFirst.j2, if_pos rfl, alive_f 59998 (by decide), Option.bind_some]
      by_cases c : isMat l p = true
      · rw [if_pos c]
        by_cases c2 : (p.length : Int) = ((first1 l).length : Int)
        · have e : ((p.length : Int) != ((first1 l).length : Int)) = false := by rw [c2]; simp
          rw [e, clochelaw03_VisitsFirst.j2, if_neg (by decide)]
          have hx := first_lex hS c (show p.length = (first1 l).length by omega)
          exact lex_l0 p (first1 l) (by omega) (by omega) p.length 0 59998 (by omega) (by omega) hx
        · have e : ((p.length : Int) != ((first1 l).length : Int)) = true := by simpa using by omega
          rw [e]
          exact h2
      · rw [if_neg c]
        exact h2
  · rw [if_neg h]
    exact hj
end Go.Proofs.YtadfcplobidmeaaDoor.Pure
