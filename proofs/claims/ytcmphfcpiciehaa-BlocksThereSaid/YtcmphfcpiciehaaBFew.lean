/- Shapes that are few enough for a statement. -/
import Derived.Test.YtcmphfcpiciehaaBOfW
namespace Go.Proofs.Ytcmphfcpiciehaa.Pure
open Go.RowKit Go.Proofs.Ytcmphfcpiciehaa.Print Go.Proofs.YtcmphfcpiciehaaW.PrintWords Go.Proofs.YtcmphfcpiciehaaW.PrintLast Go.Proofs.YtcmphfcpiciehaaW.PrintMore
set_option linter.unusedVariables false
theorem few_l0 (Q : List (List Int)) (hQ : Q.length ≤ 20) : ∀ n k (i : Nat), i + n = Q.length → n < k → ∃ b, clochelaw04_few.l0 k Q i = some b ∧ (b = true → ∀ x ∈ Q.drop i, x.length ≤ 60)
  | 0, k, i, h, hk => by
    obtain ⟨k, rfl, _⟩ := succK hk
    refine ⟨true, ?_, fun _ x hx => ?_⟩
    · simp only [clochelaw04_few.l0]
      rw [if_neg (by omega)]
    · rw [List.drop_eq_nil_of_le (by omega)] at hx
      cases hx
  | n + 1, k, i, h, hk => by
    obtain ⟨k, rfl, _⟩ := succK hk
    obtain ⟨b, h1, h2⟩ := few_l0 Q hQ n k (i + 1) (by omega) (by omega)
    simp only [clochelaw04_few.l0]
    rw [if_pos (by omega), if_pos (by omega), rdLk Q i (by omega), inc64 i (by omega)]
    by_cases hc : ((Q[i].length : Nat) : Int) > 60
    · rw [if_pos hc]
      exact ⟨false, rfl, fun h => by cases h⟩
    · rw [if_neg hc]
      refine ⟨b, h1, fun hb x hx => ?_⟩
      rw [List.drop_eq_getElem_cons (show i < Q.length by omega)] at hx
      rcases List.mem_cons.1 hx with e | e
      · rw [e]
        omega
      · exact h2 hb x e
theorem few_q (l : List Int) (Q : List (List Int)) (k : Nat) (hk : 30 ≤ k) : ∃ b, clochelaw04_few.f k l Q = some b ∧ (b = true → Q.length ≤ 20 ∧ ∀ x ∈ Q, x.length ≤ 60) := by
  obtain ⟨k, rfl⟩ : ∃ K, k = K + 1 := ⟨k - 1, by omega⟩
  unfold clochelaw04_few.f
  by_cases h : (l.length : Int) > 60
  · rw [if_pos h]
    exact ⟨false, rfl, fun h => by cases h⟩
  · rw [if_neg h]
    by_cases hq : (Q.length : Int) > 20
    · rw [decide_eq_true hq]
      exact ⟨false, rfl, fun h => by cases h⟩
    · rw [decide_eq_false hq]
      obtain ⟨b, h1, h2⟩ := few_l0 Q (by omega) Q.length k 0 (by omega) (by omega)
      refine ⟨b, h1, fun hb => ⟨by omega, fun x hx => h2 hb x (by rw [List.drop_zero]; exact hx)⟩⟩
end Go.Proofs.Ytcmphfcpiciehaa.Pure
