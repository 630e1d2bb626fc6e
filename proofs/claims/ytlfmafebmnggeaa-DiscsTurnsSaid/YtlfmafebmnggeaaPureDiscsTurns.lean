/- DiscsTurns: Turn and Turns are the specification's. -/
import Derived.Test.YtlfmafebmnggeaaDTurnsR
import Derived.Test.YtlfmafebmnggeaaDAlive
import Derived.Test.YtlfmafebmnggeaaPrintx19
namespace Go.Proofs.Ytlfmafebmnggeaa.Pure
open Go.RowKit Go.Proofs.Ytlfmafebmnggeaa.Print Go.Proofs.YtlfmafebmnggeaaW.PrintWords Go.Proofs.YtlfmafebmnggeaaW.PrintLast
set_option linter.unusedVariables false
set_option linter.unusedSimpArgs false
theorem DiscsTurns (a b c d i : Int) (l : List Int) (wa : (Lit.int .i64 a).wf = true) (wb : (Lit.int .i64 b).wf = true) (wc : (Lit.int .i64 c).wf = true) (wd : (Lit.int .i64 d).wf = true) (wi : (Lit.int .i64 i).wf = true) (wl : ∀ x ∈ l, (Lit.int .i64 x).wf = true) : ∃ k, clochelaw01_DiscsTurns.f k a b c d i l = some true := by
  refine ⟨5001, ?_⟩
  unfold clochelaw01_DiscsTurns.f
  by_cases hl : 200 < l.length
  · rw [if_pos (by omega), alive_f 5001 (by omega)]; rfl
  · rw [if_neg (by omega), Option.bind_some, if_pos (by simp only [List.length_nil]; omega)]
    have h1 := RefTurn_f ⟨a, b, c, d⟩ i 5001 (by omega)
    simp only at h1
    have h2 := Turn_f ⟨a, b, c, d⟩ i 5001 (by omega)
    simp only at h2
    rw [h1, h2, Option.bind_some, Option.bind_some, if_neg (by simp), List.nil_append]
    have h3 := Turns_f ⟨a, b, c, d⟩ l 5000 (by omega)
    have h4 := RefTurns_f ⟨a, b, c, d⟩ l 5000 (by omega)
    simp only at h3 h4
    rw [clochelaw01_DiscsTurns.j0, if_neg (by simp), h3, h4, Option.bind_some, Option.bind_some, if_pos (by simp), if_pos rfl, same_f l l (by omega) 5000 (by omega), Option.bind_some, if_pos (by simp), alive_f 5000 (by omega)]
    rfl
end Go.Proofs.Ytlfmafebmnggeaa.Pure
