/- DiscsQuads: IsQuad, IsRoot and Same are the specification's. -/
import Derived.Test.YtlfmafebmnggeaaDSameR
import Derived.Test.YtlfmafebmnggeaaDSortR
import Derived.Test.YtlfmafebmnggeaaDAlive
import Derived.Test.YtlfmafebmnggeaaPrintx26
namespace Go.Proofs.Ytlfmafebmnggeaa.Pure
open Go.RowKit Go.Proofs.Ytlfmafebmnggeaa.Print Go.Proofs.YtlfmafebmnggeaaW.PrintWords Go.Proofs.YtlfmafebmnggeaaW.PrintLast
set_option linter.unusedVariables false
set_option linter.unusedSimpArgs false
theorem DiscsQuads (a b c d a' b' c' d' : Int) (wa : (Lit.int .i64 a).wf = true) (wb : (Lit.int .i64 b).wf = true) (wc : (Lit.int .i64 c).wf = true) (wd : (Lit.int .i64 d).wf = true) (wa' : (Lit.int .i64 a').wf = true) (wb' : (Lit.int .i64 b').wf = true) (wc' : (Lit.int .i64 c').wf = true) (wd' : (Lit.int .i64 d').wf = true) : ∃ k, clochelaw01_DiscsQuads.f k a b c d a' b' c' d' = some true := by
  obtain ⟨K, hK⟩ : ∃ K : Nat, 50000000000000 ≤ K := ⟨_, Nat.le_refl _⟩
  refine ⟨K + 1, ?_⟩
  unfold clochelaw01_DiscsQuads.f
  have h1 := IsRoot_f ⟨a, b, c, d⟩ (K + 1) (by omega)
  have h2 := RefIsRoot_f ⟨a, b, c, d⟩ (K + 1) (by omega)
  have h3 := Same_f ⟨a, b, c, d⟩ ⟨a', b', c', d'⟩ K (by omega)
  have h4 := RefSame_f ⟨a, b, c, d⟩ ⟨a', b', c', d'⟩ K (by omega)
  simp only at h1 h2 h3 h4
  rw [IsQuad_f, RefIsQuad_f a b c d (K + 1) (by omega), Option.bind_some, Option.bind_some, if_neg (by simp), h1, h2, Option.bind_some, Option.bind_some, clochelaw01_DiscsQuads.j0, if_neg (by simp), h3, h4, Option.bind_some, Option.bind_some, if_pos (by simp), if_pos rfl, alive_f K (by omega)]
  rfl
end Go.Proofs.Ytlfmafebmnggeaa.Pure
