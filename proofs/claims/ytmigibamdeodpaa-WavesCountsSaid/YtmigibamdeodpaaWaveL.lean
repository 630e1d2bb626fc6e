/- The specification's wave, on rows of different numbers; a beginning and one more number. -/
import Derived.Test.YtmigibamdeodpaaRankV
import Derived.Test.YtmigibamdeodpaaPrintx11
namespace Go.Proofs.Ytmigibamdeodpaa.Pure
open Go.RowKit Go.Proofs.Ytmigibamdeodpaa.Print Go.Proofs.YtmigibamdeodpaaW.PrintWords Go.Proofs.YtmigibamdeodpaaW.PrintLast Go.Proofs.YtmigibamdeodpaaW.PrintMore
theorem tmodE' (i : Nat) : Int.tmod (i : Int) 2 = ((i % 2 : Nat) : Int) := by
  rw [Int.tmod_eq_emod_of_nonneg (by omega)]
  omega
def stepWv (l : List Int) (j : Nat) : Bool := if j % 2 = 1 then decide (¬ l.getD (j - 1) 0 ≥ l.getD j 0) else decide (¬ l.getD (j - 1) 0 ≤ l.getD j 0)
theorem wave_l0 (l : List Int) (hl : l.length ≤ 60) : ∀ n k (i : Nat), 1 ≤ i → (n = 0 → l.length ≤ i) → (0 < n → i + n = l.length) → n < k → i ≤ 61 → clocheref05_wave.l0 k l i = some (allFrom (stepWv l) i n)
  | 0, k, i, h1, h0, _, hk, hi => by
    obtain ⟨k, rfl, _⟩ := succK hk
    simp only [clocheref05_wave.l0]
    rw [if_neg (by have := h0 rfl; omega)]
    rfl
  | n + 1, k, i, h1, _, h2, hk, hi => by
    obtain ⟨k, rfl, hk'⟩ := succK hk
    have h2 := h2 (by omega)
    have e1 : wrap64 ((i : Int) - 1) = ((i - 1 : Nat) : Int) := by rw [w64 (by omega) (by omega)]; omega
    have e2 : wrap64 ((i : Int) + 1) = ((i + 1 : Nat) : Int) := by rw [w64 (by omega) (by omega)]; omega
    simp only [clocheref05_wave.l0]
    rw [if_pos (by omega), e1, e2, tmodE', rdn, rdn, wave_l0 l hl n k (i + 1) (by omega) (by omega) (by omega) (by omega) (by omega)]
    simp only [allFrom, stepWv]
    by_cases hp : i % 2 = 1
    · rw [if_pos (by omega), if_pos hp, if_pos (by omega), if_pos (by omega), if_pos (by omega)]
      by_cases hc : l.getD (i - 1) 0 ≥ l.getD i 0
      · rw [if_pos hc, decide_eq_false (fun h => h hc)]
        rfl
      · rw [if_neg hc, if_neg (by omega), decide_eq_true hc]
        rfl
    · rw [if_neg (by omega), if_neg hp, if_pos (by omega), if_pos (by omega), if_pos (by omega), if_pos (by omega)]
      by_cases hc : l.getD (i - 1) 0 ≤ l.getD i 0
      · rw [if_pos hc, decide_eq_false (fun h => h hc)]
        rfl
      · rw [if_neg hc, decide_eq_true hc]
        rfl
theorem wave_f (l : List Int) (hn : l.Nodup) (hl : l.length ≤ 60) (k : Nat) (hk : l.length < k) : clocheref05_wave.f k l = some (upB l) := by
  unfold clocheref05_wave.f
  have := wave_l0 l hl (l.length - 1) k 1 (by omega) (by omega) (by omega) (by omega) (by omega)
  refine Eq.trans this (congrArg some ?_)
  rw [Bool.eq_iff_iff, upB_iff, allFrom_iff]
  have hone : ∀ j, 1 ≤ j → j < l.length → (stepWv l j = true ↔ (l.getD (j - 1) 0 < l.getD j 0 ↔ j % 2 = 1)) := by
    intro j h1 h2
    have hne := row_ne' hn (show j - 1 ≠ j by omega) (by omega) h2
    unfold stepWv
    by_cases hp : j % 2 = 1
    · rw [if_pos hp, decide_eq_true_eq]
      simp only [hp, iff_true]
      omega
    · rw [if_neg hp, decide_eq_true_eq]
      simp only [hp, iff_false]
      omega
  constructor
  · exact fun hh j h1 h2 => (hone j h1 h2).1 (hh j h1 (by omega))
  · exact fun hh j h1 h2 => (hone j h1 (by omega)).2 (hh j h1 (by omega))
/-- One more number: still up and down exactly if its position may come. -/
theorem upB_snoc {now left : List Int} {q : Adm} (hq : QL now left q) (hu : upB now = true) {k : Nat} (hk : k < left.length) : upB (now ++ [left.getD k 0]) = admI q k := by
  have hget : ∀ j, j < now.length → (now ++ [left.getD k 0]).getD j 0 = now.getD j 0 := by
    intro j hj
    rw [List.getD_eq_getElem?_getD, List.getElem?_append_left hj, List.getD_eq_getElem?_getD]
  have hlast : (now ++ [left.getD k 0]).getD now.length 0 = left.getD k 0 := by
    simp [List.getD_eq_getElem?_getD]
  rw [upB_iff] at hu
  rw [Bool.eq_iff_iff, upB_iff]
  rcases hq with ⟨ho, rfl⟩ | ⟨p, ho, rfl, hp⟩
  · subst ho
    refine ⟨fun _ => rfl, fun _ j h1 h2 => ?_⟩
    simp at h2
    omega
  · have hpos : 0 < now.length := List.length_pos_iff.2 ho
    have hL : (now ++ [left.getD k 0]).length = now.length + 1 := by simp
    rw [hL]
    have hd := hp k hk
    have hadm : (admI (some (p, !(now.length % 2 == 0))) k = true) ↔ (p ≤ k ↔ now.length % 2 = 1) := by
      show (decide (p ≤ k) == !(now.length % 2 == 0)) = true ↔ _
      rw [beq_iff_eq, Bool.eq_iff_iff, decide_eq_true_eq]
      have : ((!(now.length % 2 == 0)) = true) ↔ now.length % 2 = 1 := by
        rcases Nat.mod_two_eq_zero_or_one now.length with e | e <;> rw [e] <;> decide
      rw [this]
    rw [hadm, ← hd]
    constructor
    · intro hh
      have := hh now.length (by omega) (by omega)
      rw [hget _ (by omega), hlast] at this
      exact this
    · intro hh j h1 h2
      by_cases hj : j = now.length
      · subst hj
        rw [hget _ (by omega), hlast]
        exact hh
      · rw [hget _ (by omega), hget _ (by omega)]
        exact hu j h1 (by omega)
end Go.Proofs.Ytmigibamdeodpaa.Pure
