/- The roots with a first bend: just the quads of the pairs m, x. -/
import Derived.Test.YtlfmafebmnggeaaDSort
import Derived.Test.YtlfmafebmnggeaaHandRoots
namespace Go.Proofs.Ytlfmafebmnggeaa.Pure
open Go.RowKit Go.Proofs.Ytlfmafebmnggeaa.Print Go.Proofs.YtlfmafebmnggeaaW.PrintWords Go.Proofs.YtlfmafebmnggeaaW.PrintLast
set_option linter.unusedVariables false
set_option linter.unusedSimpArgs false
/-- The pairs m, x of the roots of n. -/
def Vm (n m x : Int) : Prop := 0 ≤ m ∧ 2 * m ≤ x ∧ 1 ≤ x ∧ x * x ≤ n * n + m * m ∧ (n * n + m * m) % x = 0
def yq (n m x : Int) : Int := (n * n + m * m) / x
def qd (n m x : Int) : S23 := ⟨-n, x + n, yq n m x + n, x + yq n m x + n - 2 * m⟩
def RtS (q : S23) : Prop := IsRt ⟨q.f0, q.f1, q.f2, q.f3⟩
theorem Vm.xy {n m x : Int} (h : Vm n m x) : x * yq n m x = n * n + m * m := by
  unfold yq
  have := Int.mul_ediv_add_emod (n * n + m * m) x
  rw [h.2.2.2.2] at this
  omega
theorem Vm.le {n m x : Int} (h : Vm n m x) : x ≤ yq n m x := by
  have e := h.xy
  have h1 := h.2.2.2.1
  refine Int.le_of_not_gt fun hn => ?_
  have : x * yq n m x < x * x := Int.mul_lt_mul_of_pos_left hn (by have := h.2.2.1; omega)
  omega
theorem Vm.bounds {n m x : Int} (hn : 1 ≤ n) (h : Vm n m x) : x ≤ 2 * n ∧ m ≤ n ∧ yq n m x ≤ n * n := by
  obtain ⟨h0, h1, h2, h3, h4⟩ := id h
  have e := h.xy
  have hle := h.le
  have a1 : (2 * m) * (2 * m) ≤ x * x := Int.mul_le_mul h1 h1 (by omega) (by omega)
  have a2 : (2 * m) * (2 * m) = 4 * (m * m) := by grind
  have hx : x ≤ 2 * n := by
    refine Int.le_of_not_gt fun hg => ?_
    have : (2 * n + 1) * (2 * n + 1) ≤ x * x := Int.mul_le_mul (by omega) (by omega) (by omega) (by omega)
    have e2 : (2 * n + 1) * (2 * n + 1) = 4 * (n * n) + 4 * n + 1 := by grind
    have := sq_nn n
    omega
  refine ⟨hx, by omega, ?_⟩
  by_cases hx1 : x = 1
  · subst hx1
    obtain rfl : m = 0 := by omega
    omega
  · -- 2 y <= x y = n n + m m, m <= n / 1, m m <= x x / 4 <= n n
    have : 2 * yq n m x ≤ x * yq n m x := Int.mul_le_mul_of_nonneg_right (by omega) (by omega)
    have : m * m ≤ n * n := Int.mul_le_mul (by omega) (by omega) h0 (by omega)
    omega
theorem qd_root {n m x : Int} (hn : 1 ≤ n) (hn2 : n ≤ 100) (h : Vm n m x) : RtS (qd n m x) := by
  have e := h.xy
  have hle := h.le
  obtain ⟨b1, b2, b3⟩ := h.bounds hn
  obtain ⟨h0, h1, h2, h3, h4⟩ := h
  have hnn : n * n ≤ 10000 := by have := Int.mul_le_mul hn2 hn2 (by omega) (by omega); omega
  unfold RtS IsRt qd
  simp only
  generalize yq n m x = y at *
  refine ⟨⟨⟨?_, ?_, ?_, ?_⟩, ?_, ?_⟩, ⟨?_, ?_, ?_⟩, ?_, ?_⟩
  · simp only; unfold InR; omega
  · simp only; unfold InR; omega
  · simp only; unfold InR; omega
  · simp only; unfold InR; omega
  · simp only; omega
  · simp only
    rw [soddy]
    grind
  all_goals first | omega | (simp only; omega)
theorem root_qd {n : Int} (hn : 1 ≤ n) (q : S23) (h : RtS q) (h0 : q.f0 = -n) : ∃ m x, Vm n m x ∧ q = qd n m x := by
  obtain ⟨a, b, c, d⟩ := q
  unfold RtS at h
  simp only at h h0
  subst h0
  obtain ⟨hq, hs, hz, hd⟩ := h
  have e := (soddy (-n) b c d).1 hq.2.2
  unfold Srt at hs
  simp only at hs hz hd
  have ev := sq_even _ _ e
  obtain ⟨m, hm⟩ : ∃ m, -n + b + c - d = 2 * m := ⟨(-n + b + c - d) / 2, by omega⟩
  obtain ⟨x, rfl⟩ : ∃ x, b = x + n := ⟨b - n, by omega⟩
  obtain ⟨y, rfl⟩ : ∃ y, c = y + n := ⟨c - n, by omega⟩
  obtain rfl : d = x + y + n - 2 * m := by omega
  have exy : x * y = n * n + m * m := by grind
  have hx0 : 0 ≤ x := by omega
  have hnn : 0 < n * n := Int.mul_pos (by omega) (by omega)
  have hmm := sq_nn m
  have hx1 : 1 ≤ x := by
    refine Int.le_of_not_gt fun hg => ?_
    obtain rfl : x = 0 := by omega
    rw [Int.zero_mul] at exy
    omega
  have hy : yq n m x = y := by unfold yq; rw [← exy]; exact Int.mul_ediv_cancel_left _ (by omega)
  refine ⟨m, x, ⟨by omega, by omega, hx1, ?_, ?_⟩, ?_⟩
  · rw [← exy]; exact Int.mul_le_mul_of_nonneg_left (by omega) hx0
  · rw [← exy]; exact Int.mul_emod_right x y
  · unfold qd; rw [hy]
theorem qd_inj {n m x m' x' : Int} (h : qd n m x = qd n m' x') : m = m' ∧ x = x' := by
  unfold qd at h
  simp only [S23.mk.injEq] at h
  omega
end Go.Proofs.Ytlfmafebmnggeaa.Pure
