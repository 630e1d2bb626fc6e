/- The specification's wave, Turned and Turns are the code's on every list. -/
import Derived.Test.YtmigibamdeodpaaTurned
import Derived.Test.YtmigibamdeodpaaAndreL
import Derived.Test.YtmigibamdeodpaaPrintx11
import Derived.Test.YtmigibamdeodpaaPrintx30
import Derived.Test.YtmigibamdeodpaaPrintx28
namespace Go.Proofs.Ytmigibamdeodpaa.Pure
open Go.RowKit Go.Proofs.Ytmigibamdeodpaa.Print Go.Proofs.YtmigibamdeodpaaW.PrintWords Go.Proofs.YtmigibamdeodpaaW.PrintLast Go.Proofs.YtmigibamdeodpaaW.PrintMore
theorem tmodE' (i : Nat) : Int.tmod (i : Int) 2 = ((i % 2 : Nat) : Int) := by
  rw [Int.tmod_eq_emod_of_nonneg (by omega)]
  omega
def stepWv (l : List Int) (j : Nat) : Bool := if j % 2 = 1 then decide (¬ l.getD (j - 1) 0 ≥ l.getD j 0) else decide (¬ l.getD (j - 1) 0 ≤ l.getD j 0)
theorem wave_l0 (l : List Int) (hl : l.length ≤ 60) : ∀ n k (i : Nat), 1 ≤ i → (n = 0 → l.length ≤ i) → (0 < n → i + n = l.length) → n < k → i ≤ 61 → clocheref05_wave.l0 k l i = some (allFrom (stepWv l) i n)
  | 0, k, i, h1, h0, _, hk, hi => by
    obtain ⟨k, rfl, _⟩ := succK hk
    simp only [clocheref05_wave.l0]
    rw [if_neg (by have := h0 rfl; omega)]
    rfl
  | n + 1, k, i, h1, _, h2, hk, hi => by
    obtain ⟨k, rfl, hk'⟩ := succK hk
    have h2 := h2 (by omega)
    have e1 : wrap64 ((i : Int) - 1) = ((i - 1 : Nat) : Int) := by rw [w64 (by omega) (by omega)]; omega
    have e2 : wrap64 ((i : Int) + 1) = ((i + 1 : Nat) : Int) := by rw [w64 (by omega) (by omega)]; omega
    simp only [clocheref05_wave.l0]
    rw [if_pos (by omega), e1, e2, tmodE', rdn, rdn, wave_l0 l hl n k (i + 1) (by omega) (by omega) (by omega) (by omega) (by omega)]
    simp only [allFrom, stepWv]
    by_cases hp : i % 2 = 1
    · rw [if_pos (by omega), if_pos hp, if_pos (by omega), if_pos (by omega), if_pos (by omega)]
      by_cases hc : l.getD (i - 1) 0 ≥ l.getD i 0
      · rw [if_pos hc, decide_eq_false (fun h => h hc)]
        rfl
      · rw [if_neg hc, if_neg (by omega), decide_eq_true hc]
        rfl
    · rw [if_neg (by omega), if_neg hp, if_pos (by omega), if_pos (by omega), if_pos (by omega), if_pos (by omega)]
      by_cases hc : l.getD (i - 1) 0 ≤ l.getD i 0
      · rw [if_pos hc, decide_eq_false (fun h => h hc)]
        rfl
      · rw [if_neg hc, decide_eq_true hc]
        rfl
theorem wave_f (l : List Int) (hn : l.Nodup) (hl : l.length ≤ 60) (k : Nat) (hk : l.length < k) : clocheref05_wave.f k l = some (upB l) := by
  unfold clocheref05_wave.f
  have := wave_l0 l hl (l.length - 1) k 1 (by omega) (by omega) (by omega) (by omega) (by omega)
  refine Eq.trans this (congrArg some ?_)
  rw [Bool.eq_iff_iff, upB_iff, allFrom_iff]
  have hone : ∀ j, 1 ≤ j → j < l.length → (stepWv l j = true ↔ (l.getD (j - 1) 0 < l.getD j 0 ↔ j % 2 = 1)) := by
    intro j h1 h2
    have hne := row_ne hn (show j - 1 ≠ j by omega) (by omega) h2
    unfold stepWv
    by_cases hp : j % 2 = 1
    · rw [if_pos hp, decide_eq_true_eq]
      simp only [hp, iff_true]
      omega
    · rw [if_neg hp, decide_eq_true_eq]
      simp only [hp, iff_false]
      omega
  constructor
  · exact fun hh j h1 h2 => (hone j h1 h2).1 (hh j h1 (by omega))
  · exact fun hh j h1 h2 => (hone j h1 (by omega)).2 (hh j h1 (by omega))
theorem rIsWave_f (l : List Int) (k : Nat) (hk : 11 ≤ k) : clocheref05_IsWave.f k l = some (if rowS l = 0 then (upB l, 0) else (false, rowS l)) := by
  unfold clocheref05_IsWave.f
  rw [Row_f l k hk, Option.bind_some]
  by_cases h : rowS l = 0
  · have hr := (rowS_zero l).1 h
    have := hr.1
    rw [if_pos h, if_pos h, wave_f l hr.2.2 (by omega) k (by omega), h]
    rfl
  · rw [if_neg h, if_neg h]
def turnS (l : List Int) : List Int × Int := if rowS l = 0 then (turnL l, 0) else ([], rowS l)
theorem Turned_g (l : List Int) (k : Nat) (hk : 11 ≤ k) : waves_Turned.f k l = some (turnS l) := by
  unfold turnS
  by_cases h : rowS l = 0
  · rw [if_pos h]
    exact Turned_f l ((rowS_zero l).1 h) k hk
  · rw [if_neg h]
    unfold waves_Turned.f
    rw [read_f l k hk, Option.bind_some, if_neg h]
theorem rturned_l0 (l : List Int) (hl : l.length ≤ 10) (hr : ∀ x ∈ l, 1 ≤ x ∧ x ≤ l.length) : ∀ n k (i : Nat), i + n = l.length → n < k → clocheref05_Turned.l0 k l ((turnL l).take i) i = some (turnL l, 0)
  | 0, k, i, h, hk => by
    obtain ⟨k, rfl, _⟩ := succK hk
    simp only [clocheref05_Turned.l0]
    rw [if_neg (by omega), List.take_of_length_le (by rw [turnL_length]; omega)]
  | n + 1, k, i, h, hk => by
    obtain ⟨k, rfl, hk'⟩ := succK hk
    have e2 : wrap64 ((i : Int) + 1) = ((i + 1 : Nat) : Int) := by rw [w64 (by omega) (by omega)]; omega
    have e0 : wrap64 ((l.length : Int) + 1) = (l.length : Int) + 1 := w64 (by omega) (by omega)
    have hi : i < l.length := by omega
    have hx := hr _ (getD_mem hi)
    simp only [clocheref05_Turned.l0]
    rw [if_pos (by omega), if_pos (by omega), if_pos (by rw [List.length_take, turnL_length]; omega), rdn, e2, e0, w64 (by omega) (by omega)]
    have e3 : (turnL l).take i ++ [(l.length : Int) + 1 - l.getD i 0] = (turnL l).take (i + 1) := by
      rw [List.take_add_one, List.getElem?_eq_getElem (by rw [turnL_length]; exact hi), ← turnL_getD l hi, getD_at (by rw [turnL_length]; exact hi)]
      rfl
    rw [e3]
    exact rturned_l0 l hl hr n k (i + 1) (by omega) (by omega)
theorem rTurned_g (l : List Int) (k : Nat) (hk : 11 ≤ k) : clocheref05_Turned.f k l = some (turnS l) := by
  unfold turnS clocheref05_Turned.f
  rw [Row_f l k hk, Option.bind_some]
  by_cases h : rowS l = 0
  · have hr := (rowS_zero l).1 h
    have h10 := hr.1
    rw [if_pos h, if_pos h]
    have := rturned_l0 l hr.1 hr.2.1 l.length k 0 (by omega) (by omega)
    rw [List.take_zero] at this
    exact this
  · rw [if_neg h, if_neg h]
def cntS (l : List Int) : Int × Int := if rowS l = 0 then (((cntFrom (turnAt l) 1 (l.length - 2) : Nat) : Int), 0) else (0, rowS l)
theorem Turns_g (l : List Int) (k : Nat) (hk : 11 ≤ k) : waves_Turns.f k l = some (cntS l) := by
  unfold cntS
  by_cases h : rowS l = 0
  · have hr := (rowS_zero l).1 h
    have h10 := hr.1
    rw [if_pos h]
    unfold waves_Turns.f
    rw [read_f l k hk, Option.bind_some, if_pos h]
    have := Turns_l0 l hr.1 (l.length - 2) k 1 0 (by omega) (by omega) (by omega) (by omega) (by omega) (by omega)
    rw [Nat.zero_add] at this
    exact this
  · rw [if_neg h]
    unfold waves_Turns.f
    rw [read_f l k hk, Option.bind_some, if_neg h]
theorem rTurns_l0 (l : List Int) (hl : l.length ≤ 10) : ∀ n k (i c : Nat), 1 ≤ i → (0 < n → i + n + 1 = l.length) → (n = 0 → l.length ≤ i + 1) → 2 * n + 2 < k → c + n ≤ 20 → i ≤ 20 → clocheref05_Turns.l0 k l 0 c i = some (((c + cntFrom (turnAt l) i n : Nat) : Int), 0)
  | 0, k, i, c, h1, _, h, hk, hc, hi => by
    obtain ⟨k, rfl, _⟩ := succK hk
    obtain ⟨k, rfl, _⟩ := succK (show 0 < k by omega)
    simp only [clocheref05_Turns.l0]
    rw [if_neg (by rw [w64 (by omega) (by omega)]; have := h rfl; omega)]
    simp only [clocheref05_Turns.j1]
    rw [if_neg (by decide)]
    rfl
  | n + 1, k, i, c, h1, h, _, hk, hc, hi => by
    obtain ⟨k, rfl, hk'⟩ := succK hk
    obtain ⟨k, rfl, hk''⟩ := succK (show 2 * n + 3 < k by omega)
    have h := h (by omega)
    have e1 : wrap64 ((i : Int) - 1) = ((i - 1 : Nat) : Int) := by rw [w64 (by omega) (by omega)]; omega
    have e2 : wrap64 ((i : Int) + 1) = ((i + 1 : Nat) : Int) := by rw [w64 (by omega) (by omega)]; omega
    have e3 : wrap64 ((c : Int) + 1) = ((c + 1 : Nat) : Int) := by rw [w64 (by omega) (by omega)]; omega
    simp only [clocheref05_Turns.l0]
    rw [e2, if_pos (by omega), beq_self_eq_true]
    simp only [clocheref05_Turns.j1]
    rw [if_pos trivial, e1, e2, e3, if_pos (by omega), if_pos (by omega), if_pos (by omega), if_pos (by omega), if_pos (by omega), if_pos (by omega), rdn, rdn, rdn]
    simp only [cntFrom]
    show (if turnAt l i = true then _ else _) = _
    cases hb : turnAt l i
    · rw [if_neg (by decide)]
      have := rTurns_l0 l hl n k (i + 1) c (by omega) (by omega) (by omega) (by omega) (by omega) (by omega)
      rw [this]
      simp
    · rw [if_pos rfl]
      have := rTurns_l0 l hl n k (i + 1) (c + 1) (by omega) (by omega) (by omega) (by omega) (by omega) (by omega)
      rw [this]
      simp
      omega
theorem rTurns_g (l : List Int) (k : Nat) (hk : 30 ≤ k) : clocheref05_Turns.f k l = some (cntS l) := by
  unfold cntS clocheref05_Turns.f
  rw [Row_f l k (by omega), Option.bind_some]
  by_cases h : rowS l = 0
  · have hr := (rowS_zero l).1 h
    have h10 := hr.1
    rw [if_pos h, h]
    have := rTurns_l0 l hr.1 (l.length - 2) k 1 0 (by omega) (by omega) (by omega) (by omega) (by omega) (by omega)
    rw [Nat.zero_add] at this
    exact this
  · rw [if_neg h]
    obtain ⟨k, rfl, _⟩ := succK (show 1 < k by omega)
    obtain ⟨k, rfl, _⟩ := succK (show 0 < k by omega)
    simp only [clocheref05_Turns.l0]
    have hb : (rowS l == 0) = false := beq_eq_false_iff_ne.2 h
    rw [hb, ite_self]
    simp only [clocheref05_Turns.j1]
    rw [if_neg (by decide)]
theorem IsAndre_eq (l : List Int) : ∃ r, (∀ k, 160 ≤ k → waves_IsAndre.f k l = some r) ∧ ∀ k, 160 ≤ k → clocheref05_IsAndre.f k l = some r := by
  by_cases h : rowS l = 0
  · have hr := (rowS_zero l).1 h
    obtain ⟨r, h1, h2⟩ := andre_eq 10 l hr.1 hr.1
    refine ⟨(r, 0), fun k hk => ?_, fun k hk => ?_⟩
    · unfold waves_IsAndre.f
      rw [read_f l k (by omega), Option.bind_some, if_pos h, h1 k (by omega)]
      rfl
    · unfold clocheref05_IsAndre.f
      rw [Row_f l k (by omega), Option.bind_some, if_pos h, h2 k (by omega), h]
      rfl
  · refine ⟨(false, rowS l), fun k hk => ?_, fun k hk => ?_⟩
    · unfold waves_IsAndre.f
      rw [read_f l k (by omega), Option.bind_some, if_neg h]
    · unfold clocheref05_IsAndre.f
      rw [Row_f l k (by omega), Option.bind_some, if_neg h]
end Go.Proofs.Ytmigibamdeodpaa.Pure
