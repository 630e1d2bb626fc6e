/- DiscsReached: one root for all quads that are reached. -/
import Derived.Test.YtlfmafebmnggeaaDSame
import Derived.Test.YtlfmafebmnggeaaDReachT
import Derived.Test.YtlfmafebmnggeaaDSortR
import Derived.Test.YtlfmafebmnggeaaDAlive
import Derived.Test.YtlfmafebmnggeaaPrintx27
namespace Go.Proofs.Ytlfmafebmnggeaa.Pure
open Go.RowKit Go.Proofs.Ytlfmafebmnggeaa.Print Go.Proofs.YtlfmafebmnggeaaW.PrintWords Go.Proofs.YtlfmafebmnggeaaW.PrintLast
set_option linter.unusedVariables false
set_option linter.unusedSimpArgs false
theorem DiscsReached (a b c d : Int) (l : List Int) (wa : (Lit.int .i64 a).wf = true) (wb : (Lit.int .i64 b).wf = true) (wc : (Lit.int .i64 c).wf = true) (wd : (Lit.int .i64 d).wf = true) (wl : ∀ x ∈ l, (Lit.int .i64 x).wf = true) : ∃ k, clochelaw01_DiscsReached.f k a b c d l = some true := by
  obtain ⟨K, hK⟩ : ∃ K : Nat, 50000000000000 ≤ K := ⟨_, Nat.le_refl _⟩
  refine ⟨K + 2, ?_⟩
  have ha := alive_f (K + 1) (by omega)
  have ha0 := alive_f K (by omega)
  unfold clochelaw01_DiscsReached.f
  by_cases hl : 200 < l.length
  · rw [if_pos (by omega), clochelaw01_DiscsReached.j0, if_pos rfl, ha]; rfl
  rw [if_neg (by omega), RefIsQuad_f a b c d (K + 2) (by omega), Option.bind_some]
  obtain ⟨q, hqe⟩ : ∃ q : Q4, q = ⟨a, b, c, d⟩ := ⟨_, rfl⟩
  obtain ⟨rfl, rfl, rfl, rfl⟩ : q.a = a ∧ q.b = b ∧ q.c = c ∧ q.d = d := by rw [hqe]; exact ⟨rfl, rfl, rfl, rfl⟩
  by_cases hq : QQ q
  rotate_left
  · rw [decide_eq_false (show ¬ IsQ q.a q.b q.c q.d from hq), clochelaw01_DiscsReached.j0, if_pos (by simp), ha]; rfl
  have hr := Rt_root hq
  obtain ⟨e1, e2⟩ := root_self hr
  have hn := Nt_range hq
  rw [decide_eq_true (show IsQ q.a q.b q.c q.d from hq), clochelaw01_DiscsReached.j0, if_neg (by simp), Root_f q (K + 1) (by omega), RootP_q hq, Option.bind_some]
  simp only
  rw [Root_f (Rt q) (K + 1) (by omega), RootP_q hr.1, e1, e2, Option.bind_some]
  simp only
  rw [if_pos trivial, if_pos trivial, IsRoot_f (Rt q) (K + 1) (by omega), decide_eq_true hr, Option.bind_some, if_pos rfl, RefIsRoot_f (Rt q) (K + 1) (by omega), decide_eq_true hr, Option.bind_some, if_pos rfl, if_neg (by simp), if_pos trivial, if_neg (by omega)]
  have hj : clochelaw01_DiscsReached.j1 (K + 1) l false q.a q.b q.c q.d (Rt q).a (Rt q).b (Rt q).c (Rt q).d = some true := by
    rw [clochelaw01_DiscsReached.j1, if_neg (by simp), Turns_f q l K (by omega), Option.bind_some]
    unfold TurnsP
    rw [if_pos hq]
    by_cases h60 : 60 < l.length
    · rw [if_pos h60]
      simp only
      rw [if_neg (by decide), if_pos (by decide), ha0]; rfl
    · rw [if_neg h60]
      rcases turns_root l q hq with ⟨h0, h1, h2, h3, h4⟩ | ⟨t, h1, h2, h3⟩
      · rw [if_neg h0, h1, h2, h3, h4, if_pos (by decide), ha0]; rfl
      · rw [h1]
        simp only
        rw [if_pos trivial, Root_f t K (by omega), RootP_q h2, Option.bind_some, Same_f q t K (by omega), Option.bind_some, h3]
        unfold SameP
        rw [if_pos (⟨hq, h2⟩ : QQ q ∧ QQ t)]
        simp only
        rw [if_pos trivial, if_pos trivial, if_pos (by simp), if_pos (decide_eq_true h3.symm), ha0]; rfl
  by_cases h0 : Nt q = 0
  · rw [if_pos h0, Sorted_f q (K + 1) (by omega), Option.bind_some, Nt_zero hq h0]
    simp only
    rw [Nt_zero hq h0] at hj
    simpa using hj
  · rw [if_neg h0]; exact hj
end Go.Proofs.Ytlfmafebmnggeaa.Pure
