/- WavesTriangles: the finite number of sizes, each computed by the kernel; any other size is refused. -/
import Derived.Test.YtmigibamdeodpaaBase
import Derived.Test.YtmigibamdeodpaaHandTri3
namespace Go.Proofs.Ytmigibamdeodpaa.Pure
open Go.RowKit Go.Proofs.Ytmigibamdeodpaa.Print Go.Proofs.YtmigibamdeodpaaW.PrintWords Go.Proofs.YtmigibamdeodpaaW.PrintLast
theorem triAll : ((List.range 19).all fun n => clochelaw05_WavesTriangles.f 300 (n : Int) == some true) = true := by decide +kernel
theorem triOut (a0 : Int) (e1 : clocheref05_Triangle.f 60 a0 = some ([], 2)) (e2 : waves_Triangle.f a0 = some ([], 2)) : clochelaw05_WavesTriangles.f 60 a0 = some true := by
  have s0 : ∀ k x, x < 2 → clochelaw05_WavesTriangles.l0 (k + 3) a0 [] 2 x = clochelaw05_WavesTriangles.l0 k a0 [] 2 (wrap64 (x + 1)) := by
    intro k x hx
    have a : clochelaw05_WavesTriangles.l0 (k + 3) a0 [] 2 x = clochelaw05_WavesTriangles.j1 (k + 2) a0 [] 2 x [] false := by
      simp only [clochelaw05_WavesTriangles.l0]
      rw [if_pos hx, e2]
      rfl
    rw [a]
    rfl
  unfold clochelaw05_WavesTriangles.f clochelaw05_WavesTriangles.g
  rw [e1, Option.bind_some]
  have a1 : clochelaw05_WavesTriangles.l0 60 a0 [] 2 0 = clochelaw05_WavesTriangles.l0 57 a0 [] 2 1 := by
    have h := s0 57 0 (by decide)
    rw [show wrap64 (0 + 1) = 1 from w64 (by decide) (by decide)] at h
    exact h
  have a2 : clochelaw05_WavesTriangles.l0 57 a0 [] 2 1 = clochelaw05_WavesTriangles.l0 54 a0 [] 2 2 := by
    have h := s0 54 1 (by decide)
    rw [show wrap64 (1 + 1) = 2 from w64 (by decide) (by decide)] at h
    exact h
  refine (a1.trans a2).trans ?_
  have hA := alive 53 (by omega)
  show (clochelaw05_alive.f 53).bind (fun t237 => some t237) = some true
  rw [hA]
  rfl
theorem WavesTriangles : clochelaw05_WavesTriangles.Pure := by
  intro a0 _
  by_cases h1 : a0 < 0
  · refine ⟨60, triOut a0 ?_ ?_⟩
    · unfold clocheref05_Triangle.f
      rw [if_pos h1]
      rfl
    · unfold waves_Triangle.f
      rw [if_pos h1]
  by_cases h2 : a0 > 18
  · refine ⟨60, triOut a0 ?_ ?_⟩
    · unfold clocheref05_Triangle.f
      rw [if_neg h1, decide_eq_true h2]
      rfl
    · unfold waves_Triangle.f
      rw [if_neg h1, if_pos h2]
  obtain ⟨n, rfl⟩ : ∃ n : Nat, a0 = n := ⟨a0.toNat, by omega⟩
  have h := List.all_eq_true.1 triAll n (List.mem_range.2 (by omega))
  exact ⟨300, beq_iff_eq.1 h⟩
end Go.Proofs.Ytmigibamdeodpaa.Pure
