/- DiscsRests: Rests is the specification's. -/
import Derived.Test.YtlfmafebmnggeaaDRstR
import Derived.Test.YtlfmafebmnggeaaDTurns
import Derived.Test.YtlfmafebmnggeaaDAlive
import Derived.Test.YtlfmafebmnggeaaPrintx35
namespace Go.Proofs.Ytlfmafebmnggeaa.Pure
open Go.RowKit Go.Proofs.Ytlfmafebmnggeaa.Print Go.Proofs.YtlfmafebmnggeaaW.PrintWords Go.Proofs.YtlfmafebmnggeaaW.PrintLast
set_option linter.unusedVariables false
set_option linter.unusedSimpArgs false
theorem rests_len' {q : Q4} {L : List Int} (h : IsRests q L) : L.length ≤ 24 := by
  have := nodup_le (L.map Int.toNat) ?_ 24 ?_
  · rwa [List.length_map] at this
  · unfold List.Nodup
    rw [List.pairwise_map]
    refine List.Pairwise.imp_of_mem ?_ h.lt
    intro x y hx hy hlt
    have := Cv_range (rq_b q) ((h.mem x).1 hx)
    omega
  · intro x hx
    rw [List.mem_map] at hx
    obtain ⟨y, hy, rfl⟩ := hx
    have := Cv_range (rq_b q) ((h.mem y).1 hy)
    omega
theorem DiscsRests (a b c d : Int) (wa : (Lit.int .i64 a).wf = true) (wb : (Lit.int .i64 b).wf = true) (wc : (Lit.int .i64 c).wf = true) (wd : (Lit.int .i64 d).wf = true) : ∃ k, clochelaw01_DiscsRests.f k a b c d = some true := by
  obtain ⟨K, hK⟩ : ∃ K, K = 50000000000000 := ⟨_, rfl⟩
  refine ⟨K, ?_⟩
  unfold clochelaw01_DiscsRests.f
  obtain ⟨q, hqe⟩ : ∃ q : Q4, q = ⟨a, b, c, d⟩ := ⟨_, rfl⟩
  obtain ⟨rfl, rfl, rfl, rfl⟩ : q.a = a ∧ q.b = b ∧ q.c = c ∧ q.d = d := by rw [hqe]; exact ⟨rfl, rfl, rfl, rfl⟩
  by_cases hq : QQ q
  · obtain ⟨L, hL, e⟩ := Rests_f hq
    obtain ⟨L', hL', e'⟩ := RefRests_f hq
    obtain rfl := hL.unique hL'
    have := rests_len' hL
    rw [e K (by omega), e' K (by omega), Option.bind_some, Option.bind_some, same_f L L (by omega) K (by omega), Option.bind_some, if_pos (by simp), if_pos rfl, alive_f K (by omega)]
    rfl
  · rw [Rests_bad hq, RefRests_bad hq K (by omega), Option.bind_some, Option.bind_some, same_f [] [] (by simp) K (by simp only [List.length_nil]; omega), Option.bind_some, if_pos (by simp), if_pos rfl, alive_f K (by omega)]
    rfl
end Go.Proofs.Ytlfmafebmnggeaa.Pure
