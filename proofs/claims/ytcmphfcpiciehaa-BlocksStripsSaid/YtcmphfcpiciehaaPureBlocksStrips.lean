/- BlocksStrips: both packages take the strips off alike. -/
import Derived.Test.YtcmphfcpiciehaaBStp
import Derived.Test.YtcmphfcpiciehaaPrintx32
namespace Go.Proofs.Ytcmphfcpiciehaa.Pure
open Go.RowKit Go.Proofs.Ytcmphfcpiciehaa.Print Go.Proofs.YtcmphfcpiciehaaW.PrintWords Go.Proofs.YtcmphfcpiciehaaW.PrintLast Go.Proofs.YtcmphfcpiciehaaW.PrintMore
theorem rIsCore_f (l : List Int) (t : Int) (k : Nat) (hk : 400 ≤ k) : clocheref04_IsCore.f k l t = if okW l t = true then some (((strp t l).length : Int) == 0, 0) else some (false, 2) := by
  unfold clocheref04_IsCore.f
  rw [refW l t k (by omega)]
  by_cases h : okW l t = true
  · obtain ⟨hs, h1, h2⟩ := okW_iff h
    rw [if_pos h, if_pos h, rstrips_f l hs t (by omega) (by omega) k (by omega), Option.bind_some]
  · rw [if_neg h, if_neg h]
theorem BlocksStrips : clochelaw04_BlocksStrips.Pure := by
  intro l t _ _ _ _
  obtain ⟨k, hk⟩ : ∃ k, k = 3000 := ⟨_, rfl⟩
  refine ⟨k + 2, ?_⟩
  unfold clochelaw04_BlocksStrips.f
  rw [few_f l _ (by omega), Option.bind_some]
  by_cases hL : l.length ≤ 60
  · rw [decide_eq_true hL, if_pos rfl, bStrips_f l t _ (by omega), rStrips_f l t _ (by omega)]
    have hj0 : clochelaw04_BlocksStrips.j0 (k + 2) l t false = some true := by
      show clochelaw04_BlocksStrips.j0 (k + 1 + 1) l t false = some true
      generalize hF : k + 1 = F
      simp only [clochelaw04_BlocksStrips.j0]
      have hj1 : clochelaw04_BlocksStrips.j1 F l t false = some true := by
        rw [← hF]
        simp only [clochelaw04_BlocksStrips.j1]
        rw [if_neg (by decide), bIsCore_f l t _ (by omega), rIsCore_f l t _ (by omega)]
        by_cases h : okW l t = true
        · rw [if_pos h, Option.bind_some, Option.bind_some, if_pos (by simp), if_pos rfl, alive _ (by omega)]
          rfl
        · rw [if_neg h, Option.bind_some, Option.bind_some, if_pos rfl, if_pos (show ((false, 2).fst == (false, (2 : Int)).fst) = true from rfl), alive _ (by omega)]
          rfl
      rw [if_neg (by decide), bCore_f l t _ (by omega), rCore_f l t _ (by omega)]
      by_cases h : okW l t = true
      · obtain ⟨hs, h1, h2⟩ := okW_iff h
        have hc := (coreS_shp (show 0 ≤ t by omega) 40 l hs).len
        rw [if_pos h, Option.bind_some, Option.bind_some, same_self _ (show (core t l).1.length ≤ 1000000 by unfold core; omega) _ (show (core t l).1.length < F by unfold core; omega), Option.bind_some, if_pos rfl, if_pos rfl, bne_self_eq_false, hj1]
      · rw [if_neg h, Option.bind_some, Option.bind_some, same_self _ (by simp) _ (by simp; omega), Option.bind_some, if_pos rfl, if_pos rfl, bne_self_eq_false, hj1]
    by_cases h : okW l t = true
    · obtain ⟨hs, h1, h2⟩ := okW_iff h
      have h3 := strp_length t l
      have h4 := hs.len
      rw [if_pos h, Option.bind_some, Option.bind_some, shapes_self _ (show (strp t l).length ≤ 1000 by omega) (fun x hx => by have := (strp_shp hs (show 0 ≤ t by omega) hx).1.len; omega) _ (by omega), Option.bind_some, if_pos rfl, bne_self_eq_false, hj0]
    · rw [if_neg h, Option.bind_some, Option.bind_some, shapes_self _ (by simp) (by simp) _ (by omega), Option.bind_some, if_pos rfl, bne_self_eq_false, hj0]
  · rw [decide_eq_false hL, if_neg (by decide), alive _ (by omega)]
    rfl
end Go.Proofs.Ytcmphfcpiciehaa.Pure
