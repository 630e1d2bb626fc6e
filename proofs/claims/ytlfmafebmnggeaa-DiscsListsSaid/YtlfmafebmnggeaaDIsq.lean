/- Square roots, rounded down: the specification's. -/
import Derived.Test.YtlfmafebmnggeaaDTurn
import Derived.Test.YtlfmafebmnggeaaPrintx21
namespace Go.Proofs.Ytlfmafebmnggeaa.Pure
open Go.RowKit Go.Proofs.Ytlfmafebmnggeaa.Print Go.Proofs.YtlfmafebmnggeaaW.PrintWords Go.Proofs.YtlfmafebmnggeaaW.PrintLast
set_option linter.unusedVariables false
set_option linter.unusedSimpArgs false
/-- The square root, rounded down. -/
def Isq (n r : Int) : Prop := 0 ≤ r ∧ r * r ≤ n ∧ n < (r + 1) * (r + 1)
theorem sq_lt {x y : Int} (hx : 0 ≤ x) (h : x * x < y * y) (hy : 0 ≤ y) : x < y := by
  refine Int.lt_of_not_ge fun hn => ?_
  have := Int.mul_le_mul hn hn hy hx
  omega
theorem sq_le {x y : Int} (hx : 0 ≤ x) (h : x ≤ y) : x * x ≤ y * y := Int.mul_le_mul h h hx (by omega)
theorem Isq.unique {n r s : Int} (h : Isq n r) (g : Isq n s) : r = s := by
  have h1 := sq_lt h.1 (show r * r < (s + 1) * (s + 1) by have := h.2.1; have := g.2.2; omega) (by have := g.1; omega)
  have h2 := sq_lt g.1 (show s * s < (r + 1) * (r + 1) by have := g.2.1; have := h.2.2; omega) (by have := h.1; omega)
  omega
theorem Isq.sq {h : Int} (h0 : 0 ≤ h) : Isq (h * h) h := ⟨h0, Int.le_refl _, by have : (h + 1) * (h + 1) = h * h + 2 * h + 1 := by grind
                                                                                omega⟩
theorem refroot_l0 (x : Int) (hx : 0 ≤ x) (hx2 : x < 17592186044416) : ∀ (j : Nat) (r : Int), 0 ≤ r → j ≤ 31 → r + 2 ^ j ≤ 2147483648 → r * r ≤ x → x < (r + 2 ^ j) * (r + 2 ^ j) → ∀ k, j + 1 ≤ k → ∃ s, clocheref01_root.l0 k x r ((2 : Int) ^ j / 2) = some s ∧ Isq x s := by
  intro j
  induction j with
  | zero =>
    intro r h0 hj h1 h2 h3 k hk
    obtain ⟨k, rfl⟩ : ∃ j, k = j + 1 := ⟨k - 1, by omega⟩
    rw [Int.pow_zero] at h3 ⊢
    rw [clocheref01_root.l0, if_neg (by omega)]
    exact ⟨r, rfl, h0, h2, h3⟩
  | succ j ih =>
    intro r h0 hj h1 h2 h3 k hk
    obtain ⟨k, rfl⟩ : ∃ j, k = j + 1 := ⟨k - 1, by omega⟩
    rw [Int.pow_succ] at h1 h3 ⊢
    have hp : (0 : Int) < 2 ^ j := Int.pow_pos (by omega)
    obtain ⟨p, hpe⟩ : ∃ p : Int, p = 2 ^ j := ⟨_, rfl⟩
    rw [← hpe] at h1 h3 hp ⊢
    rw [show p * 2 / 2 = p by omega, clocheref01_root.l0, if_pos (by omega)]
    have hs := sq_le (x := r + p) (y := 2147483648) (by omega) (by omega)
    have hn := sq_nn (r + p)
    rw [w64 (n := r + p) (by omega) (by omega), w64 (n := (r + p) * (r + p)) (by omega) (by omega), Int.tdiv_eq_ediv_of_nonneg (by omega), w64 (n := p / 2) (by omega) (by omega)]
    by_cases hc : (r + p) * (r + p) ≤ x
    · rw [if_pos hc, hpe]
      rw [hpe] at hc h1 h3
      exact ih (r + 2 ^ j) (by omega) (by omega) (by omega) hc (by rw [show r + 2 ^ j + 2 ^ j = r + 2 ^ j * 2 by omega]; exact h3) k (by omega)
    · rw [if_neg hc, hpe]
      rw [hpe] at hc h1 h3
      exact ih r h0 (by omega) (by omega) h2 (by omega) k (by omega)
theorem refroot_f (x : Int) (hx : 0 ≤ x) (hx2 : x < 17592186044416) (k : Nat) (hk : 40 ≤ k) : ∃ r, clocheref01_root.f k x = some r ∧ Isq x r := by
  unfold clocheref01_root.f
  have e : (1073741824 : Int) = 2 ^ 31 / 2 := by decide
  have e2 : (2 : Int) ^ 31 = 2147483648 := by decide
  rw [e]
  exact refroot_l0 x hx hx2 31 0 (by omega) (by omega) (by rw [e2]; omega) (by omega) (by rw [e2]; omega) k (by omega)
end Go.Proofs.Ytlfmafebmnggeaa.Pure
