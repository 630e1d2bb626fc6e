/- IsRoot by the specification. -/
import Derived.Test.YtlfmafebmnggeaaDSort
import Derived.Test.YtlfmafebmnggeaaPrintx24
namespace Go.Proofs.Ytlfmafebmnggeaa.Pure
open Go.RowKit Go.Proofs.Ytlfmafebmnggeaa.Print Go.Proofs.YtlfmafebmnggeaaW.PrintWords Go.Proofs.YtlfmafebmnggeaaW.PrintLast
set_option linter.unusedVariables false
set_option linter.unusedSimpArgs false
theorem RefIsRoot_f (q : Q4) (k : Nat) (hk : 4010 ≤ k) : clocheref01_IsRoot.f k q.a q.b q.c q.d = some (decide (IsRt q)) := by
  unfold clocheref01_IsRoot.f
  rw [RefIsQuad_f q.a q.b q.c q.d k hk, Option.bind_some]
  by_cases hq : QQ q
  · rw [if_pos (decide_eq_true (show IsQ q.a q.b q.c q.d from hq)), Sorted_f q k (by omega), Option.bind_some]
    simp only
    by_cases hs : Srt q
    · rw [if_pos ((beq4 q (sort4 q)).2 (sort4_self hs).symm), sum3 hq]
      by_cases h0 : q.a ≤ 0
      · rw [if_pos h0]
        exact dec_iff ⟨fun h => ⟨hq, hs, h0, h⟩, fun h => h.2.2.2⟩
      · rw [if_neg h0, decide_eq_false (show ¬ IsRt q from fun h => h0 h.2.2.1)]
    · rw [if_neg (fun h => hs ((sort4_self_iff q).1 ((beq4 q (sort4 q)).1 h).symm)), decide_eq_false (show ¬ IsRt q from fun h => hs h.2.1)]
  · rw [if_neg (by rw [decide_eq_false (show ¬ IsQ q.a q.b q.c q.d from hq)]; simp), decide_eq_false (show ¬ IsRt q from fun h => hq h.1)]
end Go.Proofs.Ytlfmafebmnggeaa.Pure
