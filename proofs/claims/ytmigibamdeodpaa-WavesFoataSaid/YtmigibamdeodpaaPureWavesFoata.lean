/- WavesFoata: the finite number of sizes, each computed by the kernel. -/
import Derived.Test.YtmigibamdeodpaaPrintx29
namespace Go.Proofs.Ytmigibamdeodpaa.Pure
open Go.RowKit Go.Proofs.Ytmigibamdeodpaa.Print Go.Proofs.YtmigibamdeodpaaW.PrintWords Go.Proofs.YtmigibamdeodpaaW.PrintLast
theorem WavesFoata : clochelaw05_WavesFoata.Pure := by
  intro a0 h0
  have hr : 0 ≤ a0 ∧ a0 < 256 := by
    have h1 : IntKind.u8.min = 0 := rfl
    have h2 : IntKind.u8.max = 255 := rfl
    simp [Lit.wf] at h0
    omega
  refine ⟨2000, ?_⟩
  unfold clochelaw05_WavesFoata.f
  have hb : 0 ≤ Int.tmod a0 11 ∧ Int.tmod a0 11 < 11 := ⟨Int.tmod_nonneg _ hr.1, Int.tmod_lt_of_pos _ (by decide)⟩
  generalize Int.tmod a0 11 = t at hb ⊢
  have h : t = 0 ∨ t = 1 ∨ t = 2 ∨ t = 3 ∨ t = 4 ∨ t = 5 ∨ t = 6 ∨ t = 7 ∨ t = 8 ∨ t = 9 ∨ t = 10 := by omega
  rcases h with rfl | rfl | rfl | rfl | rfl | rfl | rfl | rfl | rfl | rfl | rfl <;> decide +kernel
end Go.Proofs.Ytmigibamdeodpaa.Pure
