/- BlocksWays: Ways is the specification's. -/
import Derived.Test.YtcmphfcpiciehaaBWaysF
import Derived.Test.YtcmphfcpiciehaaPrintx24
namespace Go.Proofs.Ytcmphfcpiciehaa.Pure
open Go.RowKit Go.Proofs.Ytcmphfcpiciehaa.Print Go.Proofs.YtcmphfcpiciehaaW.PrintWords Go.Proofs.YtcmphfcpiciehaaW.PrintLast Go.Proofs.YtcmphfcpiciehaaW.PrintMore
theorem ways_eq (l : List Int) (k : Nat) (hk1 : 1500 ≤ k) : ∃ r, blocks_Ways.f k l = some r ∧ clocheref04_Ways.f k l = some r := by
  cases h : isShp l
  · refine ⟨(0, 2), ?_, ?_⟩
    · unfold blocks_Ways.f
      rw [bIs_f l k (by omega), Option.bind_some, h, if_neg (by decide)]
    · unfold clocheref04_Ways.f
      rw [rIs_f l k (by omega), Option.bind_some, h, if_neg (by decide)]
  · have hs := (isShp_iff l).1 h
    have hl := hs.len
    have hnn := sum_nonneg' l (fun y hy => (hs.bound y hy).1)
    obtain ⟨n, hn⟩ : ∃ n : Nat, l.sum = n := ⟨l.sum.toNat, by omega⟩
    by_cases h20 : n ≤ 20
    · exact ⟨_, bWays_small l hs hn h20 k hk1, rWays_small l hs hn h20 k hk1⟩
    · refine ⟨(0, 8), ?_, ?_⟩
      · unfold blocks_Ways.f
        rw [bIs_f l k (by omega), Option.bind_some, h, if_pos rfl, total_f l (by omega) (fun x hx => by have := hs.bound x hx; omega) k (by omega), Option.bind_some, if_pos (by omega)]
      · unfold clocheref04_Ways.f
        rw [rIs_f l k (by omega), Option.bind_some, h, if_pos rfl, rSum_f l hs k (by omega), Option.bind_some, if_pos (by omega)]
theorem BlocksWays : clochelaw04_BlocksWays.Pure := by
  intro l _ _ _
  refine ⟨2000, ?_⟩
  obtain ⟨k, hk⟩ : ∃ k, k = 2000 := ⟨_, rfl⟩
  rw [← hk]
  have hA := alive k (by omega)
  unfold clochelaw04_BlocksWays.f
  rw [few_f l k (by omega), Option.bind_some]
  by_cases hL : l.length ≤ 60
  · obtain ⟨r, h1, h2⟩ := ways_eq l k (by omega)
    rw [decide_eq_true hL, if_pos rfl, h1, h2, Option.bind_some, Option.bind_some, if_pos rfl, if_pos rfl, hA]
    rfl
  · rw [decide_eq_false hL, if_neg (by decide), hA]
    rfl
end Go.Proofs.Ytcmphfcpiciehaa.Pure
