/- DiscsSoddy: turned twice a quad is the quad. -/
import Derived.Test.YtlfmafebmnggeaaDTurn
import Derived.Test.YtlfmafebmnggeaaDAlive
import Derived.Test.YtlfmafebmnggeaaPrintx14
namespace Go.Proofs.Ytlfmafebmnggeaa.Pure
open Go.RowKit Go.Proofs.Ytlfmafebmnggeaa.Print Go.Proofs.YtlfmafebmnggeaaW.PrintWords Go.Proofs.YtlfmafebmnggeaaW.PrintLast
set_option linter.unusedVariables false
set_option linter.unusedSimpArgs false
theorem DiscsSoddy (a b c d i : Int) (wa : (Lit.int .i64 a).wf = true) (wb : (Lit.int .i64 b).wf = true) (wc : (Lit.int .i64 c).wf = true) (wd : (Lit.int .i64 d).wf = true) (wi : (Lit.int .u8 i).wf = true) : ∃ k, clochelaw01_DiscsSoddy.f k a b c d i = some true := by
  refine ⟨5000, ?_⟩
  have hi : 0 ≤ i ∧ i ≤ 255 := by
    simp only [Lit.wf, IntKind.min, IntKind.max, IntKind.signed, IntKind.bits, Bool.and_eq_true, decide_eq_true_eq] at wi
    simpa using wi
  have ha := alive_f 5000 (by omega)
  have ej : wrap64 (Int.tmod i 4) = i % 4 := by rw [Int.tmod_eq_emod_of_nonneg hi.1, w64 (by omega) (by omega)]
  have hj : 0 ≤ i % 4 ∧ i % 4 < 4 := by omega
  unfold clochelaw01_DiscsSoddy.f
  rw [ej]
  generalize i % 4 = j at hj
  rw [RefIsQuad_f a b c d 5000 (by omega), Option.bind_some]
  have hT := Turn_f ⟨a, b, c, d⟩ j 5000 (by omega)
  simp only at hT
  have hI := IsQuad_f a b c d
  by_cases hq : QQ ⟨a, b, c, d⟩
  · have hq' : IsQ a b c d := hq
    have hR := RefTurned_f ⟨a, b, c, d⟩ j hj hq.inA 5000 (by omega)
    simp only at hR
    rw [if_pos ⟨hq, hj⟩] at hT
    rw [if_pos (decide_eq_true hq')]
    by_cases hr : InR (tn ⟨a, b, c, d⟩ j)
    · have hq2 := turn_quad _ j hj hq hr
      have hT2 := Turn_f (tq ⟨a, b, c, d⟩ j) j 5000 (by omega)
      rw [if_pos ⟨hq2, hj⟩, tn_back _ j hj, tq_back _ j hj, if_pos (hq.at j)] at hT2
      have hq2' : IsQ (tq ⟨a, b, c, d⟩ j).a (tq ⟨a, b, c, d⟩ j).b (tq ⟨a, b, c, d⟩ j).c (tq ⟨a, b, c, d⟩ j).d := hq2
      have hI2 := IsQuad_f (tq ⟨a, b, c, d⟩ j).a (tq ⟨a, b, c, d⟩ j).b (tq ⟨a, b, c, d⟩ j).c (tq ⟨a, b, c, d⟩ j).d
      have hI3 := RefIsQuad_f (tq ⟨a, b, c, d⟩ j).a (tq ⟨a, b, c, d⟩ j).b (tq ⟨a, b, c, d⟩ j).c (tq ⟨a, b, c, d⟩ j).d 5000 (by omega)
      rw [decide_eq_true hq'] at hI
      rw [decide_eq_true hq2'] at hI2 hI3
      rw [if_pos hr] at hT
      rw [hT, Option.bind_some, hR, Option.bind_some, inr_f, Option.bind_some, if_pos (decide_eq_true hr)]
      simp only
      rw [hT2, Option.bind_some, hI, hI2, hI3, ha]
      simp
    · rw [if_neg hr] at hT
      rw [hT, Option.bind_some, hR, Option.bind_some, inr_f, Option.bind_some, if_neg (by rw [decide_eq_false hr]; simp), ha]
      simp
  · have hq' : ¬ IsQ a b c d := hq
    rw [decide_eq_false hq'] at hI ⊢
    rw [if_neg (fun h => hq h.1)] at hT
    rw [if_neg (by simp), hT, Option.bind_some, hI, ha]
    simp
end Go.Proofs.Ytlfmafebmnggeaa.Pure
