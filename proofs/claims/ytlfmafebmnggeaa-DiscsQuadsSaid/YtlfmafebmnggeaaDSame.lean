/- Same, by the program and by the specification. -/
import Derived.Test.YtlfmafebmnggeaaDReach
import Derived.Test.YtlfmafebmnggeaaPrintx25
namespace Go.Proofs.Ytlfmafebmnggeaa.Pure
open Go.RowKit Go.Proofs.Ytlfmafebmnggeaa.Print Go.Proofs.YtlfmafebmnggeaaW.PrintWords Go.Proofs.YtlfmafebmnggeaaW.PrintLast
set_option linter.unusedVariables false
set_option linter.unusedSimpArgs false
instance : DecidableEq Q4 := fun q r => decidable_of_iff (ls q = ls r) ⟨ls_inj, fun h => h ▸ rfl⟩
def SameP (q r : Q4) : Bool × Int := if QQ q ∧ QQ r then (decide (Rt q = Rt r), 0) else (false, 2)
theorem beq4d (q r : Q4) : (q.a == r.a && (q.b == r.b && (q.c == r.c && (q.d == r.d)))) = decide (q = r) := by
  by_cases h : q = r
  · rw [(beq4 q r).2 h, decide_eq_true h]
  · rw [decide_eq_false h]
    exact Bool.eq_false_iff.2 (fun e => h ((beq4 q r).1 e))
theorem Same_f (q r : Q4) (k : Nat) (hk : 4398046511106 ≤ k) : discs_Same.f k q.a q.b q.c q.d r.a r.b r.c r.d = some (SameP q r) := by
  obtain ⟨k, rfl⟩ : ∃ j, k = j + 1 := ⟨k - 1, by omega⟩
  unfold discs_Same.f SameP
  rw [IsQuad_f, IsQuad_f, Option.bind_some, Option.bind_some]
  by_cases hq : QQ q
  · rw [if_pos (decide_eq_true (show IsQ q.a q.b q.c q.d from hq))]
    by_cases hr : QQ r
    · rw [decide_eq_true (show IsQ r.a r.b r.c r.d from hr), discs_Same.j0, if_neg (by simp), root_f hq k (by omega), root_f hr k (by omega), Option.bind_some, Option.bind_some, if_pos ⟨hq, hr⟩]
      simp only
      rw [beq4d]
    · rw [decide_eq_false (show ¬ IsQ r.a r.b r.c r.d from hr), discs_Same.j0, if_pos (by simp), if_neg (fun h => hr h.2)]
  · rw [if_neg (by rw [decide_eq_false (show ¬ IsQ q.a q.b q.c q.d from hq)]; simp), discs_Same.j0, if_pos rfl, if_neg (fun h => hq h.1)]
end Go.Proofs.Ytlfmafebmnggeaa.Pure
