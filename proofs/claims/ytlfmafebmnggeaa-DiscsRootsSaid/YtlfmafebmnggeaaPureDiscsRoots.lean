/- DiscsRoots: Root and Fourth are the specification's. -/
import Derived.Test.YtlfmafebmnggeaaDRootR
import Derived.Test.YtlfmafebmnggeaaDFourth
import Derived.Test.YtlfmafebmnggeaaDAlive
import Derived.Test.YtlfmafebmnggeaaPrintx23
namespace Go.Proofs.Ytlfmafebmnggeaa.Pure
open Go.RowKit Go.Proofs.Ytlfmafebmnggeaa.Print Go.Proofs.YtlfmafebmnggeaaW.PrintWords Go.Proofs.YtlfmafebmnggeaaW.PrintLast
set_option linter.unusedVariables false
set_option linter.unusedSimpArgs false
theorem DiscsRoots (a b c d x y z : Int) (wa : (Lit.int .i64 a).wf = true) (wb : (Lit.int .i64 b).wf = true) (wc : (Lit.int .i64 c).wf = true) (wd : (Lit.int .i64 d).wf = true) (wx : (Lit.int .i64 x).wf = true) (wy : (Lit.int .i64 y).wf = true) (wz : (Lit.int .i64 z).wf = true) : ∃ k, clochelaw01_DiscsRoots.f k a b c d x y z = some true := by
  obtain ⟨K, hK⟩ : ∃ K : Nat, 50000000000000 ≤ K := ⟨_, Nat.le_refl _⟩
  refine ⟨K + 1, ?_⟩
  unfold clochelaw01_DiscsRoots.f
  have h1 := Root_f ⟨a, b, c, d⟩ (K + 1) (by omega)
  have h2 := RefRoot_f ⟨a, b, c, d⟩ (K + 1) (by omega)
  obtain ⟨t, h3, h4⟩ := Fourth_f x y z K (by omega)
  obtain ⟨u, h5, h6⟩ := RefFourth_f x y z K (by omega)
  obtain rfl := h4.unique h6
  simp only at h1 h2
  rw [h1, h2, Option.bind_some, Option.bind_some, if_neg (by simp), if_pos rfl, clochelaw01_DiscsRoots.j0, if_neg (by simp), h3, h5, Option.bind_some, Option.bind_some, if_pos rfl, if_pos rfl, if_pos rfl, alive_f K (by omega)]
  rfl
end Go.Proofs.Ytlfmafebmnggeaa.Pure
