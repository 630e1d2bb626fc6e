/- Roots by the program: the quads of the pairs m, x, sorted. -/
import Derived.Test.YtlfmafebmnggeaaDList
namespace Go.Proofs.Ytlfmafebmnggeaa.Pure
open Go.RowKit Go.Proofs.Ytlfmafebmnggeaa.Print Go.Proofs.YtlfmafebmnggeaaW.PrintWords Go.Proofs.YtlfmafebmnggeaaW.PrintLast
set_option linter.unusedVariables false
set_option linter.unusedSimpArgs false
/-- What is found before m, x. -/
structure Inv (n : Int) (acc : List S23) (m x : Int) : Prop where
  nd : acc.Nodup
  mem : ∀ q, q ∈ acc ↔ ∃ m' x', Vm n m' x' ∧ (m' < m ∨ (m' = m ∧ x' < x)) ∧ q = qd n m' x'
  len : (acc.length : Int) ≤ 1000 * m + x
theorem Inv.step {n m x : Int} {acc : List S23} (h : Inv n acc m x) (hv : Vm n m x) : Inv n (acc ++ [qd n m x]) m (x + 1) := by
  refine ⟨?_, ?_, ?_⟩
  · rw [List.nodup_append]
    refine ⟨h.nd, by simp, ?_⟩
    intro a ha b hb hab
    rw [List.mem_singleton] at hb
    subst hab hb
    obtain ⟨m', x', _, h2, h3⟩ := (h.mem _).1 ha
    have := qd_inj h3
    omega
  · intro q
    rw [List.mem_append, List.mem_singleton, h.mem]
    constructor
    · rintro (⟨m', x', h1, h2, h3⟩ | rfl)
      · exact ⟨m', x', h1, by omega, h3⟩
      · exact ⟨m, x, hv, by omega, rfl⟩
    · rintro ⟨m', x', h1, h2, h3⟩
      by_cases e : m' = m ∧ x' = x
      · right; rw [h3, e.1, e.2]
      · left; exact ⟨m', x', h1, by omega, h3⟩
  · have := h.len; rw [List.length_append, List.length_singleton]; omega
theorem Inv.skip {n m x : Int} {acc : List S23} (h : Inv n acc m x) (hv : ¬ Vm n m x) : Inv n acc m (x + 1) := by
  refine ⟨h.nd, ?_, by have := h.len; omega⟩
  intro q
  rw [h.mem]
  constructor
  · rintro ⟨m', x', h1, h2, h3⟩; exact ⟨m', x', h1, by omega, h3⟩
  · rintro ⟨m', x', h1, h2, h3⟩
    refine ⟨m', x', h1, ?_, h3⟩
    by_cases e : m' = m ∧ x' = x
    · exact absurd (e.1 ▸ e.2 ▸ h1) hv
    · omega
theorem Inv.next {n m x : Int} {acc : List S23} (h : Inv n acc m x) (hx : x ≤ 900) (hv : ∀ x', x ≤ x' → ¬ Vm n m x') : Inv n acc (m + 1) 0 := by
  refine ⟨h.nd, ?_, by have := h.len; omega⟩
  intro q
  rw [h.mem]
  constructor
  · rintro ⟨m', x', h1, h2, h3⟩; exact ⟨m', x', h1, by omega, h3⟩
  · rintro ⟨m', x', h1, h2, h3⟩
    refine ⟨m', x', h1, ?_, h3⟩
    have := h1.2.2.1
    by_cases e : m' = m
    · subst e
      by_cases e2 : x ≤ x'
      · exact absurd h1 (hv x' e2)
      · omega
    · omega
theorem Inv.start {n m x : Int} {acc : List S23} (h : Inv n acc m 0) (h0 : 0 ≤ x) (hx : x ≤ 1 ∨ x ≤ 2 * m) : Inv n acc m x := by
  refine ⟨h.nd, ?_, by have := h.len; omega⟩
  intro q
  rw [h.mem]
  constructor
  · rintro ⟨m', x', h1, h2, h3⟩
    refine ⟨m', x', h1, ?_, h3⟩
    have := h1.2.2.1
    omega
  · rintro ⟨m', x', h1, h2, h3⟩
    refine ⟨m', x', h1, ?_, h3⟩
    have := h1.2.2.1
    have := h1.2.1
    omega
theorem sq_mono {x y : Int} (h0 : 0 ≤ x) (h : x ≤ y) : x * x ≤ y * y := Int.mul_le_mul h h h0 (by omega)
theorem sorted_qd {n m x : Int} (hn : 1 ≤ n) (hn2 : n ≤ 100) (h : Vm n m x) : sort4 ⟨-n, x + n, yq n m x + n, x + yq n m x + n - 2 * m⟩ = ⟨-n, x + n, yq n m x + n, x + yq n m x + n - 2 * m⟩ :=
  sort4_self (qd_root hn hn2 h).2.1
theorem Roots_l1 (n m : Int) (hn : 1 ≤ n) (hn2 : n ≤ 100) (h0 : 0 ≤ m) (hm : 3 * (m * m) ≤ n * n) : ∀ (d : Nat) (x : Int) (acc : List S23), x + d = 203 → 1 ≤ x → 2 * m ≤ x → Inv n acc m x → ∀ k, d + 1 ≤ k →
    ∃ acc' j, j ≤ d + 1 ∧ discs_Roots.l1 k n acc m x = discs_Roots.l0 (k - j) n acc' (m + 1) ∧ Inv n acc' (m + 1) 0 := by
  have hnn : n * n ≤ 10000 := by have := sq_mono (by omega) hn2; omega
  have hn1 : 1 ≤ n * n := by have := sq_mono (by omega) hn; omega
  have hm0 := sq_nn m
  have hm100 : m ≤ 100 := by
    refine Int.le_of_not_gt fun hg => ?_
    have := sq_mono (x := 101) (y := m) (by omega) (by omega)
    omega
  have stop : ∀ (x : Int) (acc : List S23) (k : Nat), 1 ≤ x → x ≤ 203 → n * n + m * m < x * x → Inv n acc m x →
      ∃ acc' j, j ≤ 1 ∧ discs_Roots.l1 (k + 1) n acc m x = discs_Roots.l0 (k + 1 - j) n acc' (m + 1) ∧ Inv n acc' (m + 1) 0 := by
    intro x acc k hx hx2 hs hI
    have hxx := sq_mono (x := x) (y := 203) (by omega) hx2
    refine ⟨acc, 1, Nat.le_refl _, ?_, hI.next (by omega) ?_⟩
    · rw [discs_Roots.l1, w64 (n := x * x) (by omega) (by omega), w64 (n := n * n) (by omega) (by omega), w64 (n := m * m) (by omega) (by omega), w64 (n := n * n + m * m) (by omega) (by omega), if_neg (by omega), w64 (n := m + 1) (by omega) (by omega)]
      rfl
    · intro x' hx' hv
      have := sq_mono (x := x) (y := x') (by omega) hx'
      have := hv.2.2.2.1
      omega
  intro d
  induction d with
  | zero =>
    intro x acc hd hx h2 hI k hk
    obtain ⟨k, rfl⟩ : ∃ j, k = j + 1 := ⟨k - 1, by omega⟩
    exact stop x acc k hx (by omega) (by have := sq_mono (x := 203) (y := x) (by omega) (by omega); omega) hI
  | succ d ih =>
    intro x acc hd hx h2 hI k hk
    obtain ⟨k, rfl⟩ : ∃ j, k = j + 1 := ⟨k - 1, by omega⟩
    by_cases hs : x * x ≤ n * n + m * m
    rotate_left
    · obtain ⟨acc', j, h1, h3, h4⟩ := stop x acc k hx (by omega) (by omega) hI
      exact ⟨acc', j, by omega, h3, h4⟩
    have hxx := sq_nn x
    have step : ∀ acc'', Inv n acc'' m (x + 1) → ∃ acc' j, j ≤ d + 1 + 1 ∧ discs_Roots.l1 k n acc'' m (x + 1) = discs_Roots.l0 (k + 1 - j) n acc' (m + 1) ∧ Inv n acc' (m + 1) 0 := by
      intro acc'' hI'
      obtain ⟨acc', j, h1, h3, h4⟩ := ih (x + 1) acc'' (by omega) (by omega) (by omega) hI' k (by omega)
      exact ⟨acc', j + 1, by omega, by rw [h3]; congr 1; omega, h4⟩
    rw [discs_Roots.l1, w64 (n := x * x) (by omega) (by omega), w64 (n := n * n) (by omega) (by omega), w64 (n := m * m) (by omega) (by omega), w64 (n := n * n + m * m) (by omega) (by omega), if_pos hs, if_neg (by omega), w64 (n := x + 1) (by omega) (by omega),
      Int.tmod_eq_emod_of_nonneg (show 0 ≤ n * n + m * m by omega), Int.tdiv_eq_ediv_of_nonneg (show 0 ≤ n * n + m * m by omega)]
    by_cases hd0 : (n * n + m * m) % x = 0
    · have hv : Vm n m x := ⟨h0, h2, hx, hs, hd0⟩
      obtain ⟨b1, b2, b3⟩ := hv.bounds hn
      have hle := hv.le
      have hlen := hI.len
      have es := sorted_qd hn hn2 hv
      have ey : (n * n + m * m) / x = yq n m x := rfl
      rw [if_pos hd0, ey]
      rw [w64 (n := yq n m x) (by omega) (by omega), w64 (n := -n) (by omega) (by omega), w64 (n := x + n) (by omega) (by omega), w64 (n := yq n m x + n) (by omega) (by omega), w64 (n := x + yq n m x) (by omega) (by omega),
        w64 (n := x + yq n m x + n) (by omega) (by omega), w64 (n := 2 * m) (by omega) (by omega), w64 (n := x + yq n m x + n - 2 * m) (by omega) (by omega)]
      unfold sortq.f
      rw [es, Option.bind_some, if_pos (by omega)]
      exact step _ (hI.step hv)
    · rw [if_neg hd0]
      exact step _ (hI.skip fun hv => hd0 hv.2.2.2.2)
theorem Inv.first (n : Int) : Inv n [] 0 0 := by
  refine ⟨List.nodup_nil, fun q => ⟨fun h => (List.not_mem_nil h).elim, ?_⟩, by simp⟩
  rintro ⟨m', x', h1, h2, _⟩
  have := h1.1
  have := h1.2.2.1
  omega
/-- All pairs. -/
structure All (n : Int) (L : List S23) : Prop where
  nd : L.Nodup
  mem : ∀ q, q ∈ L ↔ ∃ m x, Vm n m x ∧ q = qd n m x
  srt : L.Pairwise (fun x y => le4 x y = true)
  len : (L.length : Int) ≤ 200000
theorem Roots_end (n : Int) (hn : 1 ≤ n) (hn2 : n ≤ 100) (m : Int) (acc : List S23) (h0 : 0 ≤ m) (hm2 : m ≤ 102) (hm : n * n < 3 * (m * m)) (hI : Inv n acc m 0) (k : Nat) (hk : 1 ≤ k) : ∃ L, discs_Roots.l0 k n acc m = some (L, 0) ∧ All n L := by
  obtain ⟨k, rfl⟩ : ∃ j, k = j + 1 := ⟨k - 1, by omega⟩
  have hnn : n * n ≤ 10000 := by have := sq_mono (by omega) hn2; omega
  have hn1 : 1 ≤ n * n := by have := sq_mono (by omega) hn; omega
  have hm0 := sq_nn m
  have hmm := sq_mono h0 hm2
  have e3 : 3 * m * m = 3 * (m * m) := Int.mul_assoc ..
  have hlen := hI.len
  have hmem : ∀ q, q ∈ acc ↔ ∃ m x, Vm n m x ∧ q = qd n m x := by
    intro q
    rw [hI.mem]
    constructor
    · rintro ⟨m', x', h1, _, h3⟩; exact ⟨m', x', h1, h3⟩
    · rintro ⟨m', x', h1, h3⟩
      refine ⟨m', x', h1, ?_, h3⟩
      by_cases hg : m' < m
      · exact .inl hg
      · have g1 := sq_mono (x := m) (y := m') h0 (by omega)
        have g2 := sq_mono (x := 2 * m') (y := x') (by have := h1.1; omega) h1.2.1
        have g3 : (2 * m') * (2 * m') = 4 * (m' * m') := by grind
        have g4 := h1.2.2.2.1
        omega
  have hne : acc.length ≠ 0 := by
    have hv : Vm n 0 1 := ⟨by omega, by omega, by omega, by omega, Int.emod_one _⟩
    have := (hmem (qd n 0 1)).2 ⟨0, 1, hv, rfl⟩
    exact fun h => by rw [List.length_eq_zero_iff] at h; rw [h] at this; cases this
  rw [discs_Roots.l0, w64 (n := 3 * m) (by omega) (by omega), w64 (n := 3 * m * m) (by omega) (by omega), w64 (n := n * n) (by omega) (by omega), if_neg (by omega)]
  unfold api_Quad.f
  rw [if_neg hne, if_pos (by omega), Option.bind_some]
  exact ⟨_, rfl, (isortQ_perm acc).nodup_iff.2 hI.nd, fun q => by rw [(isortQ_perm acc).mem_iff]; exact hmem q, isortQ_sorted acc, by rw [(isortQ_perm acc).length_eq]; omega⟩
theorem Roots_l0 (n : Int) (hn : 1 ≤ n) (hn2 : n ≤ 100) : ∀ (d : Nat) (m : Int) (acc : List S23), m + d = 102 → 0 ≤ m → Inv n acc m 0 → ∀ k, (d + 1) * 300 ≤ k → ∃ L, discs_Roots.l0 k n acc m = some (L, 0) ∧ All n L := by
  have hnn : n * n ≤ 10000 := by have := sq_mono (by omega) hn2; omega
  have hn1 : 1 ≤ n * n := by have := sq_mono (by omega) hn; omega
  intro d
  induction d with
  | zero =>
    intro m acc hd h0 hI k hk
    exact Roots_end n hn hn2 m acc h0 (by omega) (by have := sq_mono (x := 102) (y := m) (by omega) (by omega); omega) hI k (by omega)
  | succ d ih =>
    intro m acc hd h0 hI k hk
    by_cases hm : 3 * (m * m) ≤ n * n
    · obtain ⟨k, rfl⟩ : ∃ j, k = j + 1 := ⟨k - 1, by omega⟩
      have hm0 := sq_nn m
      have e3 : 3 * m * m = 3 * (m * m) := Int.mul_assoc ..
      rw [discs_Roots.l0, w64 (n := 3 * m) (by omega) (by omega), w64 (n := 3 * m * m) (by omega) (by omega), w64 (n := n * n) (by omega) (by omega), if_pos (by omega), w64 (n := 2 * m) (by omega) (by omega)]
      obtain ⟨u, hu⟩ : ∃ u, u = mx 1 (2 * m) := ⟨_, rfl⟩
      have hx : 1 ≤ u ∧ 2 * m ≤ u ∧ u ≤ 203 ∧ (u ≤ 1 ∨ u ≤ 2 * m) := by rw [hu]; unfold mx; split <;> omega
      rw [← hu]
      clear hu
      obtain ⟨acc', j, h1, h2, h3⟩ := Roots_l1 n m hn hn2 h0 hm (203 - u).toNat u acc (by omega) hx.1 hx.2.1 (hI.start (by omega) hx.2.2.2) k (by omega)
      rw [h2]
      have hj : j ≤ 204 := by omega
      clear h2
      have hkk : (d + 1) * 300 ≤ k - j := by
        rw [Nat.succ_mul] at hk
        generalize (d + 1) * 300 = z at hk ⊢
        clear h3 hI ih
        omega
      exact ih (m + 1) acc' (by omega) (by omega) h3 (k - j) hkk
    · exact Roots_end n hn hn2 m acc h0 (by omega) (by omega) hI k (by omega)
theorem Roots_f (n : Int) (hn : 1 ≤ n) (hn2 : n ≤ 100) (k : Nat) (hk : 40000 ≤ k) : ∃ L, discs_Roots.f k n = some (L, 0) ∧ All n L := by
  obtain ⟨k, rfl⟩ : ∃ j, k = j + 1 := ⟨k - 1, by omega⟩
  unfold discs_Roots.f
  rw [if_neg (by omega), decide_eq_false (by omega), discs_Roots.j0, if_neg (by simp)]
  exact Roots_l0 n hn hn2 102 0 [] (by omega) (by omega) (Inv.first n) k (by omega)
theorem Roots_bad (n : Int) (hn : ¬ (1 ≤ n ∧ n ≤ 100)) (k : Nat) (hk : 1 ≤ k) : discs_Roots.f k n = some ([], 2) := by
  obtain ⟨k, rfl⟩ : ∃ j, k = j + 1 := ⟨k - 1, by omega⟩
  unfold discs_Roots.f
  by_cases h : n < 1
  · rw [if_pos h, discs_Roots.j0, if_pos rfl]
  · rw [if_neg h, decide_eq_true (by omega), discs_Roots.j0, if_pos rfl]
end Go.Proofs.Ytlfmafebmnggeaa.Pure
