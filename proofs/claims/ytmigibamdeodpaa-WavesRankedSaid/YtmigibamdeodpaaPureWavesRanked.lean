/- WavesRanked: Rank and At undo each other; At is ascending. -/
import Derived.Test.YtmigibamdeodpaaRankV
import Derived.Test.YtmigibamdeodpaaPrintx14
namespace Go.Proofs.Ytmigibamdeodpaa.Pure
open Go.RowKit Go.Proofs.Ytmigibamdeodpaa.Print Go.Proofs.YtmigibamdeodpaaW.PrintWords Go.Proofs.YtmigibamdeodpaaW.PrintLast Go.Proofs.YtmigibamdeodpaaW.PrintMore
theorem rl0_same (n : Nat) (hn : n ≤ 10) (x : List Int) (hx : x.length = n) (a : Int) : ∀ nn k (i : Nat), i + nn = n → 60 + nn < k → clochelaw05_WavesRanked.l0 k n a a x x i = some true
  | 0, k, i, h, hk => by
    obtain ⟨k, rfl, _⟩ := succK (show 0 < k by omega)
    simp only [clochelaw05_WavesRanked.l0]
    rw [if_neg (by omega), if_pos trivial, alive k (by omega)]
    rfl
  | nn + 1, k, i, h, hk => by
    obtain ⟨k, rfl, _⟩ := succK (show 0 < k by omega)
    have e2 : wrap64 ((i : Int) + 1) = ((i + 1 : Nat) : Int) := by rw [w64 (by omega) (by omega)]; omega
    simp only [clochelaw05_WavesRanked.l0]
    rw [if_pos (by omega), if_pos (by omega), if_pos (by omega), if_pos (by omega), if_pos trivial, e2]
    exact rl0_same n hn x hx a nn k (i + 1) (by omega) (by omega)
theorem rl0_diff (n : Nat) (hn : n ≤ 10) (x y : List Int) (hx : x.length = n) (hy : y.length = n) (a b : Int) (p : Nat) (hp : p < n) (hlt : (x.getD p 0 < y.getD p 0) ↔ a < b) (hne : x.getD p 0 ≠ y.getD p 0) (hs : ∀ j, j < p → x.getD j 0 = y.getD j 0) : ∀ nn k (i : Nat), i + nn = p → 60 + nn < k → clochelaw05_WavesRanked.l0 k n a b x y i = some true
  | 0, k, i, h, hk => by
    obtain ⟨k, rfl, _⟩ := succK (show 0 < k by omega)
    obtain rfl : i = p := by omega
    simp only [clochelaw05_WavesRanked.l0]
    rw [if_pos (by omega), if_pos (by omega), if_pos (by omega), if_pos (by omega), rdn, rdn, if_neg hne]
    have : (decide (x.getD i 0 < y.getD i 0) == decide (a < b)) = true := by
      rw [beq_iff_eq, Bool.eq_iff_iff, decide_eq_true_eq, decide_eq_true_eq]
      exact hlt
    rw [if_pos this, alive k (by omega)]
    rfl
  | nn + 1, k, i, h, hk => by
    obtain ⟨k, rfl, _⟩ := succK (show 0 < k by omega)
    have e2 : wrap64 ((i : Int) + 1) = ((i + 1 : Nat) : Int) := by rw [w64 (by omega) (by omega)]; omega
    simp only [clochelaw05_WavesRanked.l0]
    rw [if_pos (by omega), if_pos (by omega), if_pos (by omega), if_pos (by omega), rdn, rdn, if_pos (hs i (by omega)), e2]
    exact rl0_diff n hn x y hx hy a b p hp hlt hne hs nn k (i + 1) (by omega) (by omega)
theorem first_diff : ∀ (s t : List Nat), s.length = t.length → s = t ∨ ∃ pre a b s' t', s = pre ++ a :: s' ∧ t = pre ++ b :: t' ∧ a ≠ b
  | [], [], _ => .inl rfl
  | [], _ :: _, h => by simp at h
  | _ :: _, [], h => by simp at h
  | a :: s, b :: t, h => by
    by_cases e : a = b
    · subst e
      rcases first_diff s t (by simpa using h) with rfl | ⟨pre, c, d, s', t', rfl, rfl, hne⟩
      · exact .inl rfl
      · exact .inr ⟨a :: pre, c, d, s', t', rfl, rfl, hne⟩
    · exact .inr ⟨[], a, b, s, t, rfl, rfl, e⟩
/-- Positions with a first difference are values with a first difference, in the same order. -/
theorem dec_diff : ∀ m (left : List Int) q q' up up' (pre : List Nat) a b s t, Valid m q up (pre ++ a :: s) → Valid m q' up' (pre ++ b :: t) → left.length = m → Asc left → a ≠ b →
    ∃ p, p < m ∧ (∀ j, j < p → (dec left (pre ++ a :: s)).getD j 0 = (dec left (pre ++ b :: t)).getD j 0) ∧ (dec left (pre ++ a :: s)).getD p 0 ≠ (dec left (pre ++ b :: t)).getD p 0 ∧ ((dec left (pre ++ a :: s)).getD p 0 < (dec left (pre ++ b :: t)).getD p 0 ↔ a < b)
  | 0, _, _, _, _, _, pre, a, b, s, t, h, _, _, _, _ => by
    have h : pre ++ a :: s = [] := h
    simp at h
  | m + 1, left, _, _, _, _, [], a, b, s, t, h, h', hl, ha, hne => by
    have a1 := h.1
    have b1 := h'.1
    refine ⟨0, by omega, fun j hj => by omega, ?_, ?_⟩
    · show left.getD a 0 ≠ left.getD b 0
      intro e
      rcases Nat.lt_or_gt_of_ne hne with c | c
      · have := ha a b c (by omega); omega
      · have := ha b a c (by omega); omega
    · show left.getD a 0 < left.getD b 0 ↔ a < b
      exact ha.lt_iff (by omega) (by omega)
  | m + 1, left, _, _, _, _, c :: pre, a, b, s, t, h, h', hl, ha, hne => by
    have c1 := h.1
    obtain ⟨p, h1, h2, h3, h4⟩ := dec_diff m (left.eraseIdx c) _ _ _ _ pre a b s t h.2.2 h'.2.2 (by rw [er_length (by omega)]; omega) (ha.erase (by omega)) hne
    refine ⟨p + 1, by omega, ?_, ?_, ?_⟩
    · intro j hj
      cases j with
      | zero => rfl
      | succ j => exact h2 j (by omega)
    · exact h3
    · exact h4
theorem ranked_j0 (a1 a2 a3 : Int) (h1 : (Lit.int .u8 a1).wf = true) (h2 : (Lit.int .u32 a2).wf = true) (h3 : (Lit.int .u32 a3).wf = true) (k : Nat) (hk : 500 ≤ k) : clochelaw05_WavesRanked.j0 k a1 a2 a3 = some true := by
  have r1 : 0 ≤ a1 ∧ a1 < 256 := by
    have h1' : IntKind.u8.min = 0 := rfl
    have h2' : IntKind.u8.max = 255 := rfl
    simp [Lit.wf] at h1
    omega
  have r2 : 0 ≤ a2 ∧ a2 ≤ 4294967295 := by
    have h1' : IntKind.u32.min = 0 := rfl
    have h2' : IntKind.u32.max = 4294967295 := rfl
    simp [Lit.wf] at h2
    omega
  have r3 : 0 ≤ a3 ∧ a3 ≤ 4294967295 := by
    have h1' : IntKind.u32.min = 0 := rfl
    have h2' : IntKind.u32.max = 4294967295 := rfl
    simp [Lit.wf] at h3
    omega
  obtain ⟨k, rfl, _⟩ := succK (show 499 < k by omega)
  have hb : 0 ≤ Int.tmod a1 11 ∧ Int.tmod a1 11 < 11 := ⟨Int.tmod_nonneg _ r1.1, Int.tmod_lt_of_pos _ (by decide)⟩
  obtain ⟨n, hn⟩ := Int.eq_ofNat_of_zero_le hb.1
  have hn10 : n ≤ 10 := by omega
  have hc := count_f hn10
  have ht : total n none true = (if n = 0 then 1 else allB n true 0 n) := by
    unfold total
    rw [sumA_none]
  rw [← ht] at hc
  obtain ⟨C, hC⟩ : ∃ C, C = total n none true := ⟨_, rfl⟩
  rw [← hC] at hc
  simp only [clochelaw05_WavesRanked.j0]
  rw [hn, w64 (by omega) (by omega), hc.1, Option.bind_some]
  simp only [if_true]
  rw [if_neg (by omega), decide_eq_false (by omega)]
  obtain ⟨k, rfl, _⟩ := succK (show 498 < k by omega)
  have m2 : 0 ≤ Int.tmod a2 C ∧ Int.tmod a2 C < C := ⟨Int.tmod_nonneg _ r2.1, Int.tmod_lt_of_pos _ hc.2.1⟩
  have m3 : 0 ≤ Int.tmod a3 C ∧ Int.tmod a3 C < C := ⟨Int.tmod_nonneg _ r3.1, Int.tmod_lt_of_pos _ hc.2.1⟩
  obtain ⟨ks, v1, v2, v3, v4, v5, v6⟩ := At_wave n hn10 (Int.tmod a2 C) m2.1 (by omega)
  obtain ⟨kt, u1, u2, u3, u4, u5, u6⟩ := At_wave n hn10 (Int.tmod a3 C) m3.1 (by omega)
  simp only [clochelaw05_WavesRanked.j1]
  rw [if_neg (by decide), if_neg (by omega), w64 (z := a2) (by omega) (by omega), w64 (z := a3) (by omega) (by omega), v5 k (by omega), Option.bind_some, u5 k (by omega), Option.bind_some, v6 k (by omega), Option.bind_some, At_over n hn10 C (by omega) k, Option.bind_some]
  simp only [if_true]
  rw [if_pos (by omega), if_pos (by omega), Row_f _ k (by omega), Option.bind_some, (rowS_zero _).2 v4]
  obtain ⟨k, rfl, _⟩ := succK (show 497 < k by omega)
  show clochelaw05_WavesRanked.j2 (k + 1) _ _ _ _ _ false = _
  simp only [clochelaw05_WavesRanked.j2]
  rw [if_neg (by decide)]
  rcases first_diff ks kt (by rw [valid_length _ _ _ _ v1, valid_length _ _ _ _ u1]) with e | ⟨pre, a, b, s, t, e1, e2, hne⟩
  · subst e
    rw [← v2, ← u2]
    exact rl0_same n hn10 _ v3 _ n k 0 (by omega) (by omega)
  · subst e1 e2
    obtain ⟨p, p1, p2, p3, p4⟩ := dec_diff n (ups n) _ _ _ _ pre a b s t v1 u1 (ups_length n) (ups_asc n) hne
    refine rl0_diff n hn10 _ _ v3 u3 _ _ p p1 (p4.trans ?_) p3 p2 p k 0 (by omega) (by omega)
    rw [← v2, ← u2]
    constructor
    · exact fun c => rank_lt n hn10 none true pre a b s t v1 u1 c
    · intro c
      rcases Nat.lt_or_gt_of_ne hne with d | d
      · exact d
      · have := rank_lt n hn10 none true pre b a t s u1 v1 d
        omega
theorem WavesRanked : clochelaw05_WavesRanked.Pure := by
  intro l a1 a2 a3 _ _ _ h1 h2 h3
  refine ⟨600, ?_⟩
  unfold clochelaw05_WavesRanked.f
  by_cases h60 : (l.length : Int) > 60
  · rw [if_pos h60, alive 600 (by omega)]
    rfl
  rw [if_neg h60]
  have hj := ranked_j0 a1 a2 a3 h1 h2 h3 600 (by omega)
  rcases Rank_cases l 600 (by omega) with ⟨e, he, hr⟩ | ⟨ks, hrow, hv, hd, hr⟩
  · rw [hr, Option.bind_some]
    simp only
    rw [if_neg he]
    exact hj
  · have h10 := hrow.1
    obtain ⟨i1, i2, i3⟩ := rank_at l.length h10 none true ks hv
    rw [hr, Option.bind_some]
    simp only [if_true]
    rw [At_f l.length h10 _ i1 i2 600 (by omega), Option.bind_some, i3, ← hd]
    simp only [if_true]
    rw [same_f l l 600 (by omega) (by omega), Option.bind_some, decide_eq_true rfl, if_pos rfl]
    exact hj
end Go.Proofs.Ytmigibamdeodpaa.Pure
