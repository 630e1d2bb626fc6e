/- What waves.IsSnake computes. -/
import Derived.Test.YtmigibamdeodpaaBase
import Derived.Test.YtmigibamdeodpaaPrintx18
namespace Go.Proofs.Ytmigibamdeodpaa.Pure
open Go.RowKit Go.Proofs.Ytmigibamdeodpaa.Print Go.Proofs.YtmigibamdeodpaaW.PrintWords Go.Proofs.YtmigibamdeodpaaW.PrintLast Go.Proofs.YtmigibamdeodpaaW.PrintMore
def absL (l : List Int) : List Int := l.map fun x => (x.natAbs : Int)
def negL (l : List Int) : List Int := l.map fun x => -x
theorem absL_length (l : List Int) : (absL l).length = l.length := by simp [absL]
theorem negL_length (l : List Int) : (negL l).length = l.length := by simp [negL]
theorem absL_getD (l : List Int) {i : Nat} (h : i < l.length) : (absL l).getD i 0 = ((l.getD i 0).natAbs : Int) := by
  rw [getD_at (by rw [absL_length]; exact h), getD_at h]
  simp [absL]
theorem negL_getD (l : List Int) {i : Nat} (h : i < l.length) : (negL l).getD i 0 = -(l.getD i 0) := by
  rw [getD_at (by rw [negL_length]; exact h), getD_at h]
  simp [negL]
theorem mxneg {x : Int} (h1 : -100 ≤ x) (h2 : x ≤ 100) : mx x (wrap64 (-x)) = (x.natAbs : Int) := by
  rw [w64 (by omega) (by omega)]
  unfold mx
  split <;> omega
def snFrom (l : List Int) (i : Nat) : Nat → Int
  | 0 => 0
  | n + 1 => if l.getD i 0 < -(l.length : Int) then 2 else if l.getD i 0 > (l.length : Int) then 2 else if l.getD i 0 = 0 then 2 else if ((l.getD i 0).natAbs : Int) ∈ (absL l).take i then 2 else snFrom l (i + 1) n
def snE (l : List Int) : Int := if (l.length : Int) > 6 then 3 else snFrom l 0 l.length
def finB (l : List Int) : Bool := decide ((l.length : Int) = 0) || (decide (l.getD 0 0 > 0) && upB (negL l))
def outS (l : List Int) (e : Int) : Bool × Int := if e = 0 then (finB l, 0) else (false, e)
theorem outS2 (l : List Int) : outS l 2 = (false, 2) := rfl
theorem outS3 (l : List Int) : outS l 3 = (false, 3) := rfl
theorem rd0 (l : List Int) : rd l 0 = l.getD 0 0 := rfl
def Small (l : List Int) (i : Nat) : Prop := ∀ j, j < i → -(l.length : Int) ≤ l.getD j 0 ∧ l.getD j 0 ≤ l.length
theorem Small.step {l : List Int} {i : Nat} (h : Small l i) (h1 : ¬ l.getD i 0 < -(l.length : Int)) (h2 : ¬ l.getD i 0 > (l.length : Int)) : Small l (i + 1) := by
  intro j hj
  rcases Nat.eq_or_lt_of_le (Nat.le_of_lt_succ hj) with rfl | h3
  · omega
  · exact h j h3
theorem snake_l1 (l : List Int) (hl : l.length ≤ 6) (hs : Small l l.length) : ∀ n k (i : Nat), i + n = l.length → n + 10 < k → waves_IsSnake.l1 k l ((negL l).take i) l l.length i = some (finB l, 0)
  | 0, k, i, h, hk => by
    obtain ⟨k, rfl, _⟩ := succK hk
    simp only [waves_IsSnake.l1]
    rw [if_neg (by omega), List.take_of_length_le (by rw [negL_length]; omega)]
    unfold finB
    by_cases h0 : (l.length : Int) = 0
    · rw [if_pos h0, decide_eq_true h0]
      rfl
    · rw [if_neg h0, decide_eq_false h0, if_pos (by omega), rd0]
      by_cases h1 : l.getD 0 0 > 0
      · rw [if_pos h1, up_f _ (by rw [negL_length]; omega) k (by rw [negL_length]; omega), decide_eq_true h1]
        rfl
      · rw [if_neg h1, decide_eq_false h1]
        rfl
  | n + 1, k, i, h, hk => by
    obtain ⟨k, rfl, hk'⟩ := succK hk
    have e2 : wrap64 ((i : Int) + 1) = ((i + 1 : Nat) : Int) := by rw [w64 (by omega) (by omega)]; omega
    have hi : i < l.length := by omega
    have hx := hs i hi
    simp only [waves_IsSnake.l1]
    rw [if_pos (by omega), if_pos (by omega), if_pos (by omega), if_pos (by rw [List.length_take, negL_length]; omega), rdn, e2, w64 (by omega) (by omega)]
    have e3 : (negL l).take i ++ [-(l.getD i 0)] = (negL l).take (i + 1) := by
      rw [List.take_add_one, List.getElem?_eq_getElem (by rw [negL_length]; exact hi), ← negL_getD l hi, getD_at (by rw [negL_length]; exact hi)]
      rfl
    rw [e3]
    exact snake_l1 l hl hs n k (i + 1) (by omega) (by omega)
theorem snake_l0 (l : List Int) (hl : l.length ≤ 6) : ∀ n k (i m : Nat), i + n = l.length → n + 30 < k → Masks (absL l) i m → Small l i → waves_IsSnake.l0 k l m l l.length i = some (outS l (snFrom l i n))
  | 0, k, i, m, h, hk, _, hs => by
    obtain ⟨k, rfl, _⟩ := succK hk
    simp only [waves_IsSnake.l0]
    rw [if_neg (by omega)]
    have : i = l.length := by omega
    subst this
    have := snake_l1 l hl hs l.length k 0 (by omega) (by omega)
    rw [List.take_zero] at this
    exact this
  | n + 1, k, i, m, h, hk, hm, hs => by
    obtain ⟨k, rfl, hk'⟩ := succK hk
    have e2 : wrap64 ((i : Int) + 1) = ((i + 1 : Nat) : Int) := by rw [w64 (by omega) (by omega)]; omega
    have e0 : wrap64 (-(l.length : Int)) = -(l.length : Int) := w64 (by omega) (by omega)
    simp only [waves_IsSnake.l0, snFrom]
    rw [if_pos (by omega), if_pos (by omega), if_pos (by omega), rdn, e2, e0]
    by_cases h1 : l.getD i 0 < -(l.length : Int)
    · rw [if_pos h1, if_pos h1, outS2]
    rw [if_neg h1, if_neg h1]
    by_cases h2 : l.getD i 0 > (l.length : Int)
    · rw [if_pos h2, if_pos h2, outS2]
    rw [if_neg h2, if_neg h2]
    by_cases h0 : l.getD i 0 = 0
    · rw [if_pos h0, if_pos h0, outS2]
    rw [if_neg h0, if_neg h0, mxneg (by omega) (by omega), if_pos (by omega)]
    obtain ⟨x, hx⟩ : ∃ x : Nat, (l.getD i 0).natAbs = x := ⟨_, rfl⟩
    have hx11 : x < 11 := by omega
    have hh := mask m x hm.1 hx11
    rw [hx]
    by_cases h3 : (x : Int) ∈ (absL l).take i
    · rw [if_pos (hh.1.2 ((hm.2 x hx11).2 h3)), if_pos h3, outS2]
    · rw [if_neg (fun c => h3 ((hm.2 x hx11).1 (hh.1.1 c))), if_neg h3, hh.2.1]
      exact snake_l0 l hl n k (i + 1) _ (by omega) (by omega) (hm.step hx11 (by rw [absL_length]; omega) (by rw [absL_getD l (by omega), hx])) (hs.step h1 h2)
theorem IsSnake_f (l : List Int) (k : Nat) (hk : 40 ≤ k) : waves_IsSnake.f k l = some (outS l (snE l)) := by
  unfold waves_IsSnake.f snE
  by_cases h : (l.length : Int) > 6
  · rw [if_pos h, if_pos h, outS3]
  · rw [if_neg h, if_neg h]
    exact snake_l0 l (by omega) l.length k 0 0 (by omega) (by omega) (masks0 _) (fun j hj => by omega)
theorem snFrom_zero (l : List Int) : ∀ n i, i + n = l.length → (snFrom l i n = 0 ↔ ∀ j, i ≤ j → j < l.length → -(l.length : Int) ≤ l.getD j 0 ∧ l.getD j 0 ≤ l.length ∧ l.getD j 0 ≠ 0 ∧ ¬ ((l.getD j 0).natAbs : Int) ∈ (absL l).take j)
  | 0, i, h => ⟨fun _ j h1 h2 => by omega, fun _ => rfl⟩
  | n + 1, i, h => by
    have ih := snFrom_zero l n (i + 1) (by omega)
    simp only [snFrom]
    by_cases h1 : l.getD i 0 < -(l.length : Int)
    · rw [if_pos h1]
      refine ⟨fun h => absurd h (by decide), fun h => ?_⟩
      have := (h i (Nat.le_refl _) (by omega)).1
      omega
    rw [if_neg h1]
    by_cases h2 : l.getD i 0 > (l.length : Int)
    · rw [if_pos h2]
      refine ⟨fun h => absurd h (by decide), fun h => ?_⟩
      have := (h i (Nat.le_refl _) (by omega)).2.1
      omega
    rw [if_neg h2]
    by_cases h0 : l.getD i 0 = 0
    · rw [if_pos h0]
      exact ⟨fun h => absurd h (by decide), fun h => absurd h0 (h i (Nat.le_refl _) (by omega)).2.2.1⟩
    rw [if_neg h0]
    by_cases h3 : ((l.getD i 0).natAbs : Int) ∈ (absL l).take i
    · rw [if_pos h3]
      exact ⟨fun h => absurd h (by decide), fun h => absurd h3 (h i (Nat.le_refl _) (by omega)).2.2.2⟩
    rw [if_neg h3, ih]
    constructor
    · intro hh j hj1 hj2
      rcases Nat.eq_or_lt_of_le hj1 with rfl | h4
      · exact ⟨by omega, by omega, h0, h3⟩
      · exact hh j h4 hj2
    · exact fun hh j hj1 hj2 => hh j (by omega) hj2
end Go.Proofs.Ytmigibamdeodpaa.Pure
