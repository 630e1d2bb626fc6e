/- DiscsLaid: Discs is the specification's. -/
import Derived.Test.YtlfmafebmnggeaaDLaid
import Derived.Test.YtlfmafebmnggeaaDTurns
import Derived.Test.YtlfmafebmnggeaaDAlive
import Derived.Test.YtlfmafebmnggeaaPrintx33
namespace Go.Proofs.Ytlfmafebmnggeaa.Pure
open Go.RowKit Go.Proofs.Ytlfmafebmnggeaa.Print Go.Proofs.YtlfmafebmnggeaaW.PrintWords Go.Proofs.YtlfmafebmnggeaaW.PrintLast
set_option linter.unusedVariables false
set_option linter.unusedSimpArgs false
theorem DiscsP_len (q : Q4) (m : Int) : (DiscsP q m).1.length ≤ 20000 := by
  unfold DiscsP
  repeat' split
  all_goals first | exact Nat.zero_le _ | skip
  rename_i h
  simp only
  rw [(isort_perm _).length_eq]
  omega
theorem DiscsLaid (a b c d m : Int) (wa : (Lit.int .i64 a).wf = true) (wb : (Lit.int .i64 b).wf = true) (wc : (Lit.int .i64 c).wf = true) (wd : (Lit.int .i64 d).wf = true) (wm : (Lit.int .i64 m).wf = true) : ∃ k, clochelaw01_DiscsLaid.f k a b c d m = some true := by
  obtain ⟨K, hK⟩ : ∃ K, K = 40000000000000 := ⟨_, rfl⟩
  refine ⟨K, ?_⟩
  have h1 := Discs_f ⟨a, b, c, d⟩ m K (by omega)
  have h2 := RefDiscs_f ⟨a, b, c, d⟩ m K (by omega)
  simp only at h1 h2
  have hl := DiscsP_len ⟨a, b, c, d⟩ m
  unfold clochelaw01_DiscsLaid.f
  rw [h1, h2, Option.bind_some, Option.bind_some, same_f _ _ (by omega) K (by omega), Option.bind_some, if_pos (by simp), if_pos rfl, alive_f K (by omega)]
  rfl
end Go.Proofs.Ytlfmafebmnggeaa.Pure
