/- Same by the specification. -/
import Derived.Test.YtlfmafebmnggeaaDSame
import Derived.Test.YtlfmafebmnggeaaDRootR
import Derived.Test.YtlfmafebmnggeaaPrintx25r
namespace Go.Proofs.Ytlfmafebmnggeaa.Pure
open Go.RowKit Go.Proofs.Ytlfmafebmnggeaa.Print Go.Proofs.YtlfmafebmnggeaaW.PrintWords Go.Proofs.YtlfmafebmnggeaaW.PrintLast
set_option linter.unusedVariables false
set_option linter.unusedSimpArgs false
theorem RefSame_f (q r : Q4) (k : Nat) (hk : 40000000000000 ≤ k) : clocheref01_Same.f k q.a q.b q.c q.d r.a r.b r.c r.d = some (SameP q r) := by
  unfold clocheref01_Same.f SameP
  rw [RefRoot_f q k hk, RefRoot_f r k hk, Option.bind_some, Option.bind_some]
  by_cases hq : QQ q
  · rw [RootP_q hq]
    simp only
    rw [if_pos trivial]
    by_cases hr : QQ r
    · rw [RootP_q hr, if_pos (⟨hq, hr⟩ : QQ q ∧ QQ r)]
      simp only
      rw [if_pos trivial, beq4d]
    · rw [RootP_n hr, if_neg (show ¬ (QQ q ∧ QQ r) from fun h => hr h.2)]
      rfl
  · rw [RootP_n hq, if_neg (show ¬ (QQ q ∧ QQ r) from fun h => hq h.1)]
    rfl
end Go.Proofs.Ytlfmafebmnggeaa.Pure
