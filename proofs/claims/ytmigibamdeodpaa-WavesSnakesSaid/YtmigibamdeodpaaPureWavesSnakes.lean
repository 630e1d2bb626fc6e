/- WavesSnakes: IsSnake and Snakes are the specification's. -/
import Derived.Test.YtmigibamdeodpaaSnake2
import Derived.Test.YtmigibamdeodpaaPrintx22
namespace Go.Proofs.Ytmigibamdeodpaa.Pure
open Go.RowKit Go.Proofs.Ytmigibamdeodpaa.Print Go.Proofs.YtmigibamdeodpaaW.PrintWords Go.Proofs.YtmigibamdeodpaaW.PrintLast Go.Proofs.YtmigibamdeodpaaW.PrintMore
theorem sw0 : waves_Snakes.f 199 0 = some (1, 0) := by decide +kernel
theorem sr0 : clocheref05_Snakes.f 199 0 = some (1, 0) := by decide +kernel
theorem sw1 : waves_Snakes.f 199 1 = some (1, 0) := by decide +kernel
theorem sr1 : clocheref05_Snakes.f 199 1 = some (1, 0) := by decide +kernel
theorem sw2 : waves_Snakes.f 199 2 = some (3, 0) := by decide +kernel
theorem sr2 : clocheref05_Snakes.f 199 2 = some (3, 0) := by decide +kernel
theorem sw3 : waves_Snakes.f 199 3 = some (11, 0) := by decide +kernel
theorem sr3 : clocheref05_Snakes.f 199 3 = some (11, 0) := by decide +kernel
theorem sw4 : waves_Snakes.f 199 4 = some (57, 0) := by decide +kernel
theorem sr4 : clocheref05_Snakes.f 199 4 = some (57, 0) := by decide +kernel
theorem sw5 : waves_Snakes.f 199 5 = some (361, 0) := by decide +kernel
theorem sr5 : clocheref05_Snakes.f 199 5 = some (361, 0) := by decide +kernel
theorem sw6 : waves_Snakes.f 199 6 = some (2763, 0) := by decide +kernel
theorem sr6 : clocheref05_Snakes.f 199 6 = some (2763, 0) := by decide +kernel
theorem snakes_eq (a : Int) : ∃ r, waves_Snakes.f 199 a = some r ∧ clocheref05_Snakes.f 199 a = some r := by
  by_cases h0 : a < 0
  · refine ⟨(0, 2), ?_, ?_⟩
    · unfold waves_Snakes.f
      rw [if_pos h0]
    · unfold clocheref05_Snakes.f
      rw [if_pos h0]
  by_cases h6 : a > 6
  · refine ⟨(0, 2), ?_, ?_⟩
    · unfold waves_Snakes.f
      rw [if_neg h0, if_pos h6]
    · unfold clocheref05_Snakes.f
      rw [if_neg h0, if_pos h6]
  have h : a = 0 ∨ a = 1 ∨ a = 2 ∨ a = 3 ∨ a = 4 ∨ a = 5 ∨ a = 6 := by omega
  rcases h with rfl | rfl | rfl | rfl | rfl | rfl | rfl
  · exact ⟨_, sw0, sr0⟩
  · exact ⟨_, sw1, sr1⟩
  · exact ⟨_, sw2, sr2⟩
  · exact ⟨_, sw3, sr3⟩
  · exact ⟨_, sw4, sr4⟩
  · exact ⟨_, sw5, sr5⟩
  · exact ⟨_, sw6, sr6⟩
theorem WavesSnakes : clochelaw05_WavesSnakes.Pure := by
  intro l a _ _ _ _
  refine ⟨200, ?_⟩
  unfold clochelaw05_WavesSnakes.f
  by_cases h60 : (l.length : Int) > 60
  · rw [if_pos h60, alive 200 (by omega)]
    rfl
  rw [if_neg h60, Option.bind_some, if_pos (by simp only [List.length_nil]; omega), Option.bind_some, List.nil_append, IsSnake_f l 200 (by omega), Option.bind_some, rIsSnake_f l 200 (by omega), Option.bind_some, out_eq]
  simp only [bne_self_eq_false]
  rw [if_neg (by decide)]
  simp only [clochelaw05_WavesSnakes.j0]
  obtain ⟨r, h1, h2⟩ := snakes_eq a
  rw [if_neg (by decide), h1, Option.bind_some, h2, Option.bind_some, if_pos rfl, if_pos rfl, same_f l l 199 (by omega) (by omega), Option.bind_some, decide_eq_true rfl, if_pos rfl, alive 199 (by omega)]
  rfl
end Go.Proofs.Ytmigibamdeodpaa.Pure
