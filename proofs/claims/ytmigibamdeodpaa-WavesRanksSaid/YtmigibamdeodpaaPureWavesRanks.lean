/- WavesRanks: Rank and At are the specification's. -/
import Derived.Test.YtmigibamdeodpaaSearchF
import Derived.Test.YtmigibamdeodpaaRankB
import Derived.Test.YtmigibamdeodpaaPrintx13
namespace Go.Proofs.Ytmigibamdeodpaa.Pure
open Go.RowKit Go.Proofs.Ytmigibamdeodpaa.Print Go.Proofs.YtmigibamdeodpaaW.PrintWords Go.Proofs.YtmigibamdeodpaaW.PrintLast Go.Proofs.YtmigibamdeodpaaW.PrintMore
theorem ranksRank (l : List Int) (k : Nat) (hk : 450 ≤ k) : ∃ r, waves_Rank.f k l = some r ∧ clocheref05_Rank.f k l = some r := by
  have hI := rIsWave_g l k (by omega)
  by_cases hr : rowS l = 0
  · have h := (rowS_zero l).1 hr
    have h10 := h.1
    rw [if_pos hr] at hI
    cases hu : upB l
    · refine ⟨(0, 9), ?_, ?_⟩
      · unfold waves_Rank.f
        rw [read_f l k (by omega), Option.bind_some, if_pos hr, up_f l (by omega) k (by omega), Option.bind_some, hu, if_neg (by decide)]
      · unfold clocheref05_Rank.f
        rw [hI, Option.bind_some, hu]
        simp
    · obtain ⟨ks, h1, h2, h3⟩ := Rank_wave l h hu k (by omega)
      refine ⟨_, h3, ?_⟩
      have hb := bef_f l.length l rfl l.length [] (ups l.length) 0 none (.eq ks) k (sit0 (by omega)) (ups_length _) h1 ⟨fun i hi => absurd hi (by simp), h2⟩ (by omega)
      have hb : clocheref05_before.f k l [] 0 = some (rkI l.length none true ks) := hb
      unfold clocheref05_Rank.f
      rw [hI, Option.bind_some, hu]
      simp [hb]
  · rw [if_neg hr] at hI
    refine ⟨(0, rowS l), ?_, ?_⟩
    · unfold waves_Rank.f
      rw [read_f l k (by omega), Option.bind_some, if_neg hr]
    · unfold clocheref05_Rank.f
      rw [hI, Option.bind_some]
      simp [hr]
theorem ranksAt (n rank : Int) (k : Nat) (hk : 450 ≤ k) : ∃ r, waves_At.f k n rank = some r ∧ clocheref05_At.f k n rank = some r ∧ r.1.length ≤ 10 := by
  by_cases h1 : n < 0
  · refine ⟨([], 2), ?_, ?_, by decide⟩
    · unfold waves_At.f waves_Count.f
      rw [if_pos h1, Option.bind_some]
      rfl
    · unfold clocheref05_At.f
      rw [if_pos h1]
  by_cases h2 : n > 10
  · refine ⟨([], 2), ?_, ?_, by decide⟩
    · unfold waves_At.f waves_Count.f
      rw [if_neg h1, if_pos h2, Option.bind_some]
      rfl
    · unfold clocheref05_At.f
      rw [if_neg h1, if_pos h2]
  obtain ⟨m, rfl⟩ : ∃ m : Nat, n = m := ⟨n.toNat, by omega⟩
  have hm : m ≤ 10 := by omega
  have hR := rAt_f hm rank k (by omega)
  by_cases h3 : rank < 0
  · refine ⟨([], 4), ?_, by rw [hR, if_neg (by omega)], by decide⟩
    have hc := (count_f hm).1
    unfold waves_At.f
    rw [hc, Option.bind_some]
    simp only [if_true]
    rw [if_pos h3]
  by_cases h4 : total m none true ≤ rank
  · exact ⟨([], 4), At_over m hm rank h4 k, by rw [hR, if_neg (by omega)], by decide⟩
  · refine ⟨_, At_f m hm rank (by omega) (by omega) k (by omega), by rw [hR, if_pos (by omega)], ?_⟩
    have hv := (at_rank m hm none true rank (by omega) (by omega)).1
    show (dec (ups m) (atI m none true rank)).length ≤ 10
    rw [dec_length, valid_length _ _ _ _ hv]
    exact hm
theorem WavesRanks : clochelaw05_WavesRanks.Pure := by
  intro l n rank _ _ _ _ _
  by_cases hL : (l.length : Int) > 60
  · refine ⟨40, ?_⟩
    unfold clochelaw05_WavesRanks.f
    rw [if_pos hL, alive 40 (by omega)]
    rfl
  obtain ⟨k, hk⟩ : ∃ k, k = 450 := ⟨_, rfl⟩
  refine ⟨k + 1, ?_⟩
  obtain ⟨r, a1, a2⟩ := ranksRank l (k + 1) (by omega)
  obtain ⟨s, b1, b2, b3⟩ := ranksAt n rank k (by omega)
  unfold clochelaw05_WavesRanks.f
  rw [if_neg hL, a1, Option.bind_some, a2, Option.bind_some, if_pos rfl, bne_self_eq_false]
  have e1 : clochelaw05_WavesRanks.j0 (k + 1) n rank false = ((waves_At.f k n rank).bind fun bt280 => ((clocheref05_At.f k n rank).bind fun bt284 => ((clochelaw05_same.f k bt280.1 bt284.1).bind fun t288 => (if t288 = true then (if bt280.2 = bt284.2 then ((clochelaw05_alive.f k).bind fun t289 => (some t289)) else (some false)) else (some false))))) := rfl
  rw [e1, b1, Option.bind_some, b2, Option.bind_some, same_f _ _ k (by omega) (by omega), Option.bind_some, decide_eq_true rfl, if_pos rfl, if_pos rfl, alive k (by omega)]
  rfl
end Go.Proofs.Ytmigibamdeodpaa.Pure
