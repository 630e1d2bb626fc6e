/- Turns by the specification. -/
import Derived.Test.YtlfmafebmnggeaaDTurns
import Derived.Test.YtlfmafebmnggeaaPrintx16
import Derived.Test.YtlfmafebmnggeaaPrintx18
namespace Go.Proofs.Ytlfmafebmnggeaa.Pure
open Go.RowKit Go.Proofs.Ytlfmafebmnggeaa.Print Go.Proofs.YtlfmafebmnggeaaW.PrintWords Go.Proofs.YtlfmafebmnggeaaW.PrintLast
set_option linter.unusedVariables false
set_option linter.unusedSimpArgs false
theorem refturn_f (q : Q4) (i : Int) (hq : QQ q) (k : Nat) (hk : 6 ≤ k) : clocheref01_turn.f k q.a q.b q.c q.d i = some (tu q i) := by
  obtain ⟨k, rfl⟩ : ∃ j, k = j + 1 := ⟨k - 1, by omega⟩
  unfold clocheref01_turn.f tu
  by_cases h0 : i < 0
  · rw [if_pos h0, clocheref01_turn.j0, if_pos rfl, if_neg (by omega)]
  · rw [if_neg h0]
    by_cases h3 : i > 3
    · rw [decide_eq_true h3, clocheref01_turn.j0, if_pos rfl, if_neg (by omega)]
    · have hi : 0 ≤ i ∧ i < 4 := by omega
      rw [decide_eq_false h3, clocheref01_turn.j0, if_neg (by simp), RefTurned_f q i hi hq.inA k (by omega), Option.bind_some, inr_f, Option.bind_some, if_pos hi]
      by_cases hr : InR (tn q i)
      · obtain ⟨e1, e2, e3, e4⟩ := pt4_tq q i hi (tn q i)
        rw [if_pos (decide_eq_true hr), if_pos hi.1, if_pos hi.2, if_pos hr, e1, e2, e3, e4]
        rfl
      · rw [if_neg (by rw [decide_eq_false hr]; simp), if_neg hr]
theorem RefTurn_f (q : Q4) (i : Int) (k : Nat) (hk : 4010 ≤ k) : clocheref01_Turn.f k q.a q.b q.c q.d i = discs_Turn.f k q.a q.b q.c q.d i := by
  unfold clocheref01_Turn.f
  rw [RefIsQuad_f q.a q.b q.c q.d k hk, Option.bind_some]
  by_cases hq : QQ q
  · rw [if_pos (decide_eq_true (show IsQ q.a q.b q.c q.d from hq)), refturn_f q i hq k (by omega), Turn_q q i hq k (by omega), Option.bind_some]
  · rw [if_neg (by rw [decide_eq_false (show ¬ IsQ q.a q.b q.c q.d from hq)]; simp), Turn_nq q i hq k (by omega)]
theorem refTurns_err (l : List Int) (e : Int) (he : e ≠ 0) (j : Int) (a b c d : Int) (k : Nat) (hk : 1 ≤ k) : clocheref01_Turns.l0 k l e j a b c d = some (a, b, c, d, e) := by
  obtain ⟨k, rfl⟩ : ∃ i, k = i + 1 := ⟨k - 1, by omega⟩
  rw [clocheref01_Turns.l0, if_neg he]
  split <;> rfl
theorem refTurns_l0 (l : List Int) (hn : l.length ≤ 1000) : ∀ d j (q : Q4), j + d = l.length → QQ q → ∀ k, d + 8 ≤ k → clocheref01_Turns.l0 k l 0 (j : Int) q.a q.b q.c q.d = some (turns q (l.drop j)) := by
  intro d
  induction d with
  | zero =>
    intro j q hj hq k hk
    obtain ⟨k, rfl⟩ : ∃ i, k = i + 1 := ⟨k - 1, by omega⟩
    rw [clocheref01_Turns.l0, if_neg (by omega), List.drop_of_length_le (by omega)]; rfl
  | succ d ih =>
    intro j q hj hq k hk
    obtain ⟨k, rfl⟩ : ∃ i, k = i + 1 := ⟨k - 1, by omega⟩
    rw [clocheref01_Turns.l0, if_pos (by omega), if_pos rfl, if_pos (by omega), refturn_f q _ hq k (by omega), drop_one l j (by omega), turns, Option.bind_some, wsucc j (by omega)]
    unfold tu
    by_cases hi : 0 ≤ rd l (j : Int) ∧ rd l (j : Int) < 4
    · rw [if_pos hi, if_pos hi]
      by_cases hr : InR (tn q (rd l (j : Int)))
      · rw [if_pos hr, if_pos hr]
        exact ih (j + 1) _ (by omega) (turn_quad q _ hi hq hr) k (by omega)
      · rw [if_neg hr, if_neg hr]; exact refTurns_err l 4 (by omega) _ _ _ _ _ k (by omega)
    · rw [if_neg hi, if_neg hi]; exact refTurns_err l 2 (by omega) _ _ _ _ _ k (by omega)
theorem RefTurns_f (q : Q4) (l : List Int) (k : Nat) (hk : 4010 ≤ k) : clocheref01_Turns.f k q.a q.b q.c q.d l = some (TurnsP q l) := by
  unfold clocheref01_Turns.f TurnsP
  rw [RefIsQuad_f q.a q.b q.c q.d k hk, Option.bind_some]
  by_cases hq : QQ q
  · rw [if_pos (decide_eq_true (show IsQ q.a q.b q.c q.d from hq)), if_pos hq]
    by_cases hl : 60 < l.length
    · rw [if_pos (by omega), if_pos hl]
    · rw [if_neg (by omega), if_neg hl]
      exact refTurns_l0 l (by omega) l.length 0 q (Nat.zero_add _) hq k (by omega)
  · rw [if_neg (by rw [decide_eq_false (show ¬ IsQ q.a q.b q.c q.d from hq)]; simp), if_neg hq]
end Go.Proofs.Ytlfmafebmnggeaa.Pure
