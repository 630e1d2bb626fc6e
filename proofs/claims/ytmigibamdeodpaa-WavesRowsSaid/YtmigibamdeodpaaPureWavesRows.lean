/- WavesRows: IsWave, Turned, Turns and IsAndre are the specification's. -/
import Derived.Test.YtmigibamdeodpaaRowsL
import Derived.Test.YtmigibamdeodpaaPrintx32
namespace Go.Proofs.Ytmigibamdeodpaa.Pure
open Go.RowKit Go.Proofs.Ytmigibamdeodpaa.Print Go.Proofs.YtmigibamdeodpaaW.PrintWords Go.Proofs.YtmigibamdeodpaaW.PrintLast Go.Proofs.YtmigibamdeodpaaW.PrintMore
theorem WavesRows : clochelaw05_WavesRows.Pure := by
  intro l _ _ _
  refine ⟨200, ?_⟩
  unfold clochelaw05_WavesRows.f
  by_cases h60 : (l.length : Int) > 60
  · rw [if_pos h60, alive 200 (by omega)]
    rfl
  rw [if_neg h60, Option.bind_some, if_pos (by simp only [List.length_nil]; omega), Option.bind_some, List.nil_append, IsWave_f l 200 (by omega), Option.bind_some, rIsWave_f l 200 (by omega), Option.bind_some]
  simp only [bne_self_eq_false]
  rw [if_neg (by decide)]
  simp only [clochelaw05_WavesRows.j0]
  have hlen : (turnS l).1.length ≤ 60 := by
    unfold turnS
    split
    · rw [turnL_length]; omega
    · simp
  rw [if_neg (by decide), Turned_g l 199 (by omega), Option.bind_some, rTurned_g l 199 (by omega), Option.bind_some, same_f _ _ 199 (by omega) (by omega), Option.bind_some, decide_eq_true rfl, if_pos rfl]
  simp only [bne_self_eq_false, clochelaw05_WavesRows.j1]
  rw [if_neg (by decide), Turns_g l 198 (by omega), Option.bind_some, rTurns_g l 198 (by omega), Option.bind_some, if_pos rfl]
  simp only [bne_self_eq_false, clochelaw05_WavesRows.j2]
  obtain ⟨r, h1, h2⟩ := IsAndre_eq l
  rw [if_neg (by decide), h1 197 (by omega), Option.bind_some, h2 197 (by omega), Option.bind_some, beq_self_eq_true, if_pos rfl, if_pos rfl, same_f l l 197 (by omega) (by omega), Option.bind_some, decide_eq_true rfl, if_pos rfl, alive 197 (by omega)]
  rfl
end Go.Proofs.Ytmigibamdeodpaa.Pure
