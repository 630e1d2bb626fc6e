/- What the specification's IsSnake computes; it is what waves.IsSnake computes. -/
import Derived.Test.YtmigibamdeodpaaSnake1
import Derived.Test.YtmigibamdeodpaaPrintx20
namespace Go.Proofs.Ytmigibamdeodpaa.Pure
open Go.RowKit Go.Proofs.Ytmigibamdeodpaa.Print Go.Proofs.YtmigibamdeodpaaW.PrintWords Go.Proofs.YtmigibamdeodpaaW.PrintLast Go.Proofs.YtmigibamdeodpaaW.PrintMore
theorem tmodE (i : Nat) : Int.tmod (i : Int) 2 = ((i % 2 : Nat) : Int) := by
  rw [Int.tmod_eq_emod_of_nonneg (by omega)]
  omega
def stepSn (l : List Int) (j : Nat) : Bool := if j % 2 = 1 then decide (¬ l.getD (j - 1) 0 ≤ l.getD j 0) else decide (¬ l.getD (j - 1) 0 ≥ l.getD j 0)
def snB (l : List Int) : Bool := !(decide (0 < l.length) && decide (l.getD 0 0 < 0)) && allFrom (stepSn l) 1 (l.length - 1)
theorem rsnake_l0 (l : List Int) (hl : l.length ≤ 60) : ∀ n k (i : Nat), 1 ≤ i → (n = 0 → l.length ≤ i) → (0 < n → i + n = l.length) → n < k → i ≤ 61 → clocheref05_snake.l0 k l i = some (allFrom (stepSn l) i n)
  | 0, k, i, h1, h0, _, hk, hi => by
    obtain ⟨k, rfl, _⟩ := succK hk
    simp only [clocheref05_snake.l0]
    rw [if_neg (by have := h0 rfl; omega)]
    rfl
  | n + 1, k, i, h1, _, h2, hk, hi => by
    obtain ⟨k, rfl, hk'⟩ := succK hk
    have h2 := h2 (by omega)
    have e1 : wrap64 ((i : Int) - 1) = ((i - 1 : Nat) : Int) := by rw [w64 (by omega) (by omega)]; omega
    have e2 : wrap64 ((i : Int) + 1) = ((i + 1 : Nat) : Int) := by rw [w64 (by omega) (by omega)]; omega
    simp only [clocheref05_snake.l0]
    rw [if_pos (by omega), e1, e2, tmodE, rdn, rdn, rsnake_l0 l hl n k (i + 1) (by omega) (by omega) (by omega) (by omega) (by omega)]
    simp only [allFrom, stepSn]
    by_cases hp : i % 2 = 1
    · rw [if_pos (by omega), if_pos hp, if_pos (by omega), if_pos (by omega), if_pos (by omega)]
      by_cases hc : l.getD (i - 1) 0 ≤ l.getD i 0
      · rw [if_pos hc, decide_eq_false (fun h => h hc)]
        rfl
      · rw [if_neg hc, if_neg (by omega), decide_eq_true hc]
        rfl
    · rw [if_neg (by omega), if_neg hp, if_pos (by omega), if_pos (by omega), if_pos (by omega), if_pos (by omega)]
      by_cases hc : l.getD (i - 1) 0 ≥ l.getD i 0
      · rw [if_pos hc, decide_eq_false (fun h => h hc)]
        rfl
      · rw [if_neg hc, decide_eq_true hc]
        rfl
theorem rsnake_f (l : List Int) (hl : l.length ≤ 60) (k : Nat) (hk : l.length + 2 < k) : clocheref05_snake.f k l = some (snB l) := by
  obtain ⟨k, rfl, hk'⟩ := succK hk
  have hl0 := rsnake_l0 l hl (l.length - 1) k 1 (by omega) (by omega) (by omega) (by omega) (by omega)
  unfold clocheref05_snake.f snB
  by_cases h : 0 < l.length
  · rw [if_pos (by omega), if_pos (by omega), rd0, decide_eq_true h]
    simp only [clocheref05_snake.j0]
    by_cases h0 : l.getD 0 0 < 0
    · rw [decide_eq_true h0, if_pos rfl]
      rfl
    · rw [decide_eq_false h0, if_neg (by decide)]
      exact hl0
  · rw [if_neg (by omega), decide_eq_false h]
    simp only [clocheref05_snake.j0]
    rw [if_neg (by decide)]
    exact hl0
def outR (l : List Int) (e : Int) : Bool × Int := if e = 0 then (snB l, 0) else (false, e)
theorem outR2 (l : List Int) : outR l 2 = (false, 2) := rfl
theorem outR3 (l : List Int) : outR l 3 = (false, 3) := rfl
theorem rIs_l0 (l : List Int) (hl : l.length ≤ 6) : ∀ n k (i m : Nat), i + n = l.length → 2 * n + 30 < k → Masks (absL l) i m → clocheref05_IsSnake.l0 k l m i = some (outR l (snFrom l i n))
  | 0, k, i, m, h, hk, _ => by
    obtain ⟨k, rfl, _⟩ := succK hk
    simp only [clocheref05_IsSnake.l0]
    rw [if_neg (by omega), rsnake_f l (by omega) k (by omega)]
    rfl
  | n + 1, k, i, m, h, hk, hm => by
    obtain ⟨k, rfl, hk'⟩ := succK hk
    obtain ⟨k, rfl, hk''⟩ := succK (show 2 * n + 31 < k by omega)
    have e2 : wrap64 ((i : Int) + 1) = ((i + 1 : Nat) : Int) := by rw [w64 (by omega) (by omega)]; omega
    have e0 : wrap64 (-(l.length : Int)) = -(l.length : Int) := w64 (by omega) (by omega)
    have hj : clocheref05_IsSnake.j1 (k + 1) l m i true = some (outR l 2) := by
      simp only [clocheref05_IsSnake.j1, if_true]
      rfl
    simp only [clocheref05_IsSnake.l0, snFrom]
    rw [if_pos (by omega), if_pos (by omega), rdn, e0]
    by_cases h1 : l.getD i 0 < -(l.length : Int)
    · rw [if_pos h1, if_pos h1, hj]
    rw [if_neg h1, if_neg h1]
    by_cases h2 : l.getD i 0 > (l.length : Int)
    · rw [if_pos h2, if_pos h2, hj]
    rw [if_neg h2, if_neg h2]
    by_cases h0 : l.getD i 0 = 0
    · rw [if_pos h0, beq_iff_eq.2 h0, hj]
    rw [if_neg h0, beq_eq_false_iff_ne.2 h0]
    simp only [clocheref05_IsSnake.j1]
    rw [if_neg (by decide), if_pos (by omega), if_pos (by omega), rdn, e2, mxneg (by omega) (by omega), if_pos (by omega)]
    obtain ⟨x, hx⟩ : ∃ x : Nat, (l.getD i 0).natAbs = x := ⟨_, rfl⟩
    have hx11 : x < 11 := by omega
    have hh := mask m x hm.1 hx11
    rw [hx]
    by_cases h3 : (x : Int) ∈ (absL l).take i
    · rw [if_pos (hh.2.2.1.2 ((hm.2 x hx11).2 h3)), if_pos h3, outR2]
    · have hb : Nat.testBit m x = false := by
        cases hb : Nat.testBit m x
        · rfl
        · exact absurd ((hm.2 x hx11).1 hb) h3
      rw [if_neg (fun c => h3 ((hm.2 x hx11).1 (hh.2.2.1.1 c))), if_neg h3, hh.2.2.2.1 hb]
      exact rIs_l0 l hl n k (i + 1) _ (by omega) (by omega) (hm.step hx11 (by rw [absL_length]; omega) (by rw [absL_getD l (by omega), hx]))
theorem rIsSnake_f (l : List Int) (k : Nat) (hk : 50 ≤ k) : clocheref05_IsSnake.f k l = some (outR l (snE l)) := by
  unfold clocheref05_IsSnake.f snE
  by_cases h : (l.length : Int) > 6
  · rw [if_pos h, if_pos h, outR3]
  · rw [if_neg h, if_neg h]
    exact rIs_l0 l (by omega) l.length k 0 0 (by omega) (by omega) (masks0 _)
theorem out_eq (l : List Int) : outR l (snE l) = outS l (snE l) := by
  by_cases hn : ¬ snE l = 0
  · unfold outR outS
    rw [if_neg hn, if_neg hn]
  have h := Decidable.not_not.1 hn
  have h6 : ¬ (l.length : Int) > 6 := by
    intro h6
    unfold snE at h
    rw [if_pos h6] at h
    exact absurd h (by decide)
  have hz := h
  unfold snE at hz
  rw [if_neg h6, snFrom_zero l l.length 0 (by omega)] at hz
  have key : snB l = finB l := by
    rw [Bool.eq_iff_iff]
    unfold snB finB
    rw [Bool.and_eq_true, Bool.or_eq_true, Bool.and_eq_true, allFrom_iff, decide_eq_true_eq, decide_eq_true_eq, upB_iff, negL_length]
    have hs : (∀ j, 1 ≤ j → j < 1 + (l.length - 1) → stepSn l j = true) ↔ (∀ j, 1 ≤ j → j < l.length → ((negL l).getD (j - 1) 0 < (negL l).getD j 0 ↔ j % 2 = 1)) := by
      have hone : ∀ j, 1 ≤ j → j < l.length → (stepSn l j = true ↔ ((negL l).getD (j - 1) 0 < (negL l).getD j 0 ↔ j % 2 = 1)) := by
        intro j h1 h2
        have hne : l.getD (j - 1) 0 ≠ l.getD j 0 := by
          intro e
          refine (hz j (by omega) h2).2.2.2 (List.mem_take_iff_getElem.2 ⟨j - 1, by rw [absL_length]; omega, ?_⟩)
          have := absL_getD l (show j - 1 < l.length by omega)
          rw [getD_at (by rw [absL_length]; omega), e] at this
          exact this
        rw [negL_getD l h2, negL_getD l (by omega)]
        unfold stepSn
        by_cases hp : j % 2 = 1
        · rw [if_pos hp, decide_eq_true_eq]
          simp only [hp, iff_true]
          omega
        · rw [if_neg hp, decide_eq_true_eq]
          simp only [hp, iff_false]
          omega
      constructor
      · exact fun hh j h1 h2 => (hone j h1 h2).1 (hh j h1 (by omega))
      · exact fun hh j h1 h2 => (hone j h1 (by omega)).2 (hh j h1 (by omega))
    rw [hs]
    by_cases h0 : l.length = 0
    · constructor
      · exact fun _ => .inl (by omega)
      · intro _
        exact ⟨by rw [decide_eq_false (show ¬ 0 < l.length by omega)]; rfl, fun j h1 h2 => by omega⟩
    · have hne := (hz 0 (by omega) (by omega)).2.2.1
      rw [decide_eq_true (show 0 < l.length by omega), Bool.true_and, Bool.not_eq_true', decide_eq_false_iff_not]
      constructor
      · rintro ⟨ha, hb⟩
        exact .inr ⟨by omega, hb⟩
      · rintro (ha | ⟨ha, hb⟩)
        · omega
        · exact ⟨by omega, hb⟩
  unfold outR outS
  rw [if_pos h, if_pos h, key]
end Go.Proofs.Ytmigibamdeodpaa.Pure
