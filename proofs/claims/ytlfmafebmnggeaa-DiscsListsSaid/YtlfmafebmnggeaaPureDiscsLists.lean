/- DiscsLists: Roots is the specification's list. -/
import Derived.Test.YtlfmafebmnggeaaDListQ
import Derived.Test.YtlfmafebmnggeaaDAlive
import Derived.Test.YtlfmafebmnggeaaPrintx29
namespace Go.Proofs.Ytlfmafebmnggeaa.Pure
open Go.RowKit Go.Proofs.Ytlfmafebmnggeaa.Print Go.Proofs.YtlfmafebmnggeaaW.PrintWords Go.Proofs.YtlfmafebmnggeaaW.PrintLast
set_option linter.unusedVariables false
set_option linter.unusedSimpArgs false
theorem lists_l0 (L : List S23) (hL : (L.length : Int) ≤ 9000000000000000000) : ∀ (d : Nat) (i : Int), i + d = L.length → 0 ≤ i → ∀ k, d + 60 ≤ k → clochelaw01_DiscsLists.l0 k L L i = some true := by
  intro d
  induction d with
  | zero =>
    intro i hd h0 k hk
    obtain ⟨k, rfl⟩ : ∃ j, k = j + 1 := ⟨k - 1, by omega⟩
    rw [clochelaw01_DiscsLists.l0, if_neg (by omega), alive_f k (by omega)]
    rfl
  | succ d ih =>
    intro i hd h0 k hk
    obtain ⟨k, rfl⟩ : ∃ j, k = j + 1 := ⟨k - 1, by omega⟩
    rw [clochelaw01_DiscsLists.l0, if_pos (by omega), if_pos h0, if_pos (by omega), if_neg (by simp), w64 (n := i + 1) (by omega) (by omega)]
    exact ih (i + 1) (by omega) (by omega) k (by omega)
theorem DiscsLists : clochelaw01_DiscsLists.Pure := by
  intro n _
  by_cases h : n < 1 ∨ 100 < n
  · refine ⟨20000000, ?_⟩
    unfold clochelaw01_DiscsLists.f
    rw [Roots_bad n (by omega) _ (by omega), RefRoots_bad n h _ (by omega), Option.bind_some, Option.bind_some, if_pos rfl]
    rw [show (20000000 : Nat) = 19999999 + 1 from rfl, clochelaw01_DiscsLists.j0, if_neg (by decide)]
    exact lists_l0 [] (by decide) 0 0 rfl (by decide) 19999999 (by decide)
  · obtain ⟨L, e1, h1⟩ := Roots_f n (by omega) (by omega) 40000 (by omega)
    obtain ⟨L', e2, h2⟩ := RefRoots_f n (by omega) (by omega) 20000000 (by omega)
    obtain rfl := lists_same (by omega) (by omega) h1 h2
    obtain ⟨K, hK⟩ : ∃ K, K = 20000000 + L.length + 60 := ⟨_, rfl⟩
    obtain ⟨L1, e3, h3⟩ := Roots_f n (by omega) (by omega) (K + 1) (by omega)
    obtain ⟨L2, e4, h4⟩ := RefRoots_f n (by omega) (by omega) (K + 1) (by omega)
    have a1 := lists_same (by omega) (by omega) h1 h4
    have a2 := lists_same (by omega) (by omega) h3 h4
    subst a2
    subst a1
    refine ⟨K + 1, ?_⟩
    have hl := h2.len
    unfold clochelaw01_DiscsLists.f
    rw [e3, e4, Option.bind_some, Option.bind_some, if_pos rfl, clochelaw01_DiscsLists.j0, if_neg (by simp)]
    exact lists_l0 L hl L.length 0 (by omega) (by omega) K (by omega)
end Go.Proofs.Ytlfmafebmnggeaa.Pure
