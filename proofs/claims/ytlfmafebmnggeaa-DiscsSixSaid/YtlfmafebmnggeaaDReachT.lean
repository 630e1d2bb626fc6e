/- Lists of turns keep the root. -/
import Derived.Test.YtlfmafebmnggeaaDReach
import Derived.Test.YtlfmafebmnggeaaDTurns
namespace Go.Proofs.Ytlfmafebmnggeaa.Pure
open Go.RowKit Go.Proofs.Ytlfmafebmnggeaa.Print Go.Proofs.YtlfmafebmnggeaaW.PrintWords Go.Proofs.YtlfmafebmnggeaaW.PrintLast
set_option linter.unusedVariables false
set_option linter.unusedSimpArgs false
/-- What turns lead to: an error, or a quad with the same root. -/
theorem turns_root (l : List Int) : ∀ q, QQ q → ((turns q l).2.2.2.2 ≠ 0 ∧ (turns q l).1 = 0 ∧ (turns q l).2.1 = 0 ∧ (turns q l).2.2.1 = 0 ∧ (turns q l).2.2.2.1 = 0) ∨ ∃ t, turns q l = (t.a, t.b, t.c, t.d, 0) ∧ QQ t ∧ Rt t = Rt q := by
  induction l with
  | nil => intro q hq; exact .inr ⟨q, rfl, hq, rfl⟩
  | cons i l ih =>
    intro q hq
    rw [turns]
    by_cases hi : 0 ≤ i ∧ i < 4
    · rw [if_pos hi]
      by_cases hr : InR (tn q i)
      · rw [if_pos hr]
        rcases ih _ (turn_quad q i hi hq hr) with h | ⟨t, h1, h2, h3⟩
        · exact .inl h
        · exact .inr ⟨t, h1, h2, h3.trans (Rt_turn hq i hi hr)⟩
      · rw [if_neg hr]; exact .inl ⟨by decide, rfl, rfl, rfl, rfl⟩
    · rw [if_neg hi]; exact .inl ⟨by decide, rfl, rfl, rfl, rfl⟩
end Go.Proofs.Ytlfmafebmnggeaa.Pure
