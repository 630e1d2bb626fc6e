/- The root by the specification. -/
import Derived.Test.YtlfmafebmnggeaaDRoot
import Derived.Test.YtlfmafebmnggeaaPrintx21
namespace Go.Proofs.Ytlfmafebmnggeaa.Pure
open Go.RowKit Go.Proofs.Ytlfmafebmnggeaa.Print Go.Proofs.YtlfmafebmnggeaaW.PrintWords Go.Proofs.YtlfmafebmnggeaaW.PrintLast
set_option linter.unusedVariables false
set_option linter.unusedSimpArgs false
/-! ### the specification's root -/
theorem refRoot_round (k : Nat) (s : Int) (q : Q4) : clocheref01_Root.l0 (k + 4) s q.a q.b q.c q.d = clocheref01_Root.l1 k s (maxAt q) 4 q.a q.b q.c q.d := by
  have e1 : wrap64 ((1 : Int) + 1) = 2 := w64 (by omega) (by omega)
  have e2 : wrap64 ((2 : Int) + 1) = 3 := w64 (by omega) (by omega)
  have e3 : wrap64 ((3 : Int) + 1) = 4 := w64 (by omega) (by omega)
  have st : ∀ (k j : Nat), 1 ≤ j → j < 4 → clocheref01_Root.l1 (k + 1) s (maxUp q j) (j : Int) q.a q.b q.c q.d = clocheref01_Root.l1 k s (maxUp q (j + 1)) ((j : Int) + 1) q.a q.b q.c q.d := by
    intro k j h1 h4
    have hm := maxUp_in q j (by omega)
    rw [clocheref01_Root.l1, if_pos (by omega), if_pos (by omega), if_pos hm.1, if_pos hm.2, at4_at, at4_at, w64 (by omega) (by omega), maxUp]
    by_cases h : q.at j ≥ q.at (maxUp q j)
    · rw [if_pos h, if_pos h]
    · rw [if_neg h, if_neg h]
  have m1 : maxUp q 1 = 0 := by rw [maxUp, maxUp]; simp
  rw [clocheref01_Root.l0]
  have s1 := st (k + 2) 1 (by omega) (by omega)
  have s2 := st (k + 1) 2 (by omega) (by omega)
  have s3 := st k 3 (by omega) (by omega)
  rw [m1] at s1
  exact s1.trans (s2.trans s3)
theorem refRoot_f : ∀ q, QQ q → ∀ (k : Nat) (s : Int), 5 * sm q + 40 < k → 0 ≤ s → s + sm q ≤ 4398046511104 → clocheref01_Root.l0 k s q.a q.b q.c q.d = some ((Rt q).a, (Rt q).b, (Rt q).c, (Rt q).d, s + Nt q, 0) := by
  have hd : ∀ q, QQ q → ∀ (k : Nat) (s : Int), 40 ≤ k → clocheref01_Root.l0 (k + 5) s q.a q.b q.c q.d = if tn q (maxAt q) < q.at (maxAt q) then clocheref01_Root.l0 k (wrap64 (s + 1)) (tq q (maxAt q)).a (tq q (maxAt q)).b (tq q (maxAt q)).c (tq q (maxAt q)).d else some ((sort4 q).a, (sort4 q).b, (sort4 q).c, (sort4 q).d, s, 0) := by
    intro q hq k s hk
    have hm := maxAt_in q
    rw [refRoot_round (k + 1) s q, clocheref01_Root.l1, if_neg (by omega), RefTurned_f q _ hm hq.inA k (by omega), Option.bind_some, if_pos hm.1, if_pos hm.2, at4_at, Sorted_f q k (by omega)]
    by_cases h : tn q (maxAt q) < q.at (maxAt q)
    · obtain ⟨e1, e2, e3, e4⟩ := pt4_tq q (maxAt q) hm (tn q (maxAt q))
      rw [if_neg (by omega), if_pos h, e1, e2, e3, e4]
      rfl
    · rw [if_pos (by omega), if_neg h]; rfl
  refine root_ind ?_ ?_
  · intro q hq h k s hk _ _
    have := hq.sum_pos
    obtain ⟨k, rfl⟩ : ∃ j, k = j + 5 := ⟨k - 5, by omega⟩
    rw [hd q hq k s (by omega), if_neg h, (Rt_eq hq).1, (Rt_eq hq).2, if_neg h, if_neg h, Int.add_zero]
  · intro q hq h hq2 ih k s hk h0 hs
    have := rt_sum h
    have := hq.sum_pos
    have := hq2.sum_pos
    obtain ⟨k, rfl⟩ : ∃ j, k = j + 5 := ⟨k - 5, by omega⟩
    rw [hd q hq k s (by omega), if_pos h, w64 (by omega) (by omega), ih k (s + 1) (by omega) (by omega) (by omega), (Rt_eq hq).1, (Rt_eq hq).2, if_pos h, if_pos h]
    congr 6
    omega
theorem RefRoot_f (q : Q4) (k : Nat) (hk : 40000000000000 ≤ k) : clocheref01_Root.f k q.a q.b q.c q.d = some (RootP q) := by
  unfold clocheref01_Root.f RootP
  rw [RefIsQuad_f q.a q.b q.c q.d k (by omega), Option.bind_some]
  by_cases hq : QQ q
  · have := sm_le hq
    rw [if_pos (decide_eq_true (show IsQ q.a q.b q.c q.d from hq)), refRoot_f q hq k 0 (by omega) (by omega) (by omega), if_pos hq, Int.zero_add]
  · rw [if_neg (by rw [decide_eq_false (show ¬ IsQ q.a q.b q.c q.d from hq)]; simp), if_neg hq]
end Go.Proofs.Ytlfmafebmnggeaa.Pure
