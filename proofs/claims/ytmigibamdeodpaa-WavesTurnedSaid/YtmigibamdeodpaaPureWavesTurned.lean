/- WavesTurned: waves, turned, and the numbers that are greater or less than both neighbours. -/
import Derived.Test.YtmigibamdeodpaaTurned
import Derived.Test.YtmigibamdeodpaaPrintx24
namespace Go.Proofs.Ytmigibamdeodpaa.Pure
open Go.RowKit Go.Proofs.Ytmigibamdeodpaa.Print Go.Proofs.YtmigibamdeodpaaW.PrintWords Go.Proofs.YtmigibamdeodpaaW.PrintLast Go.Proofs.YtmigibamdeodpaaW.PrintMore
theorem Turns_f (l : List Int) (h : IsRow l) (k : Nat) (hk : 11 ≤ k) : waves_Turns.f k l = some (((cntFrom (turnAt l) 1 (l.length - 2) : Nat) : Int), 0) := by
  have h10 := h.1
  unfold waves_Turns.f
  rw [read_f l k hk, Option.bind_some, if_pos ((rowS_zero l).2 h)]
  have := Turns_l0 l h.1 (l.length - 2) k 1 0 (by omega) (by omega) (by omega) (by omega) (by omega) (by omega)
  rw [Nat.zero_add] at this
  exact this
def dn (l : List Int) (j : Nat) : Prop := l.getD (j - 1) 0 < l.getD j 0
theorem turnAt_iff {l : List Int} (h : l.Nodup) {i : Nat} (hi : i + 1 < l.length) : turnAt l i = true ↔ (dn l i ↔ ¬ dn l (i + 1)) := by
  have hne := row_ne h (show i ≠ i + 1 by omega) (by omega) hi
  unfold turnAt dn
  rw [beq_iff_eq, Bool.eq_iff_iff, decide_eq_true_eq, decide_eq_true_eq]
  have : l.getD (i + 1) 0 < l.getD i 0 ↔ ¬ l.getD (i + 1 - 1) 0 < l.getD (i + 1) 0 := by
    rw [Nat.add_sub_cancel]
    omega
  rw [this]
theorem alternate {l : List Int} (h : l.Nodup) (h2 : 2 ≤ l.length) : ((upB l || upB (turnL l)) = true) ↔ cntFrom (turnAt l) 1 (l.length - 2) = l.length - 2 := by
  rw [cntFrom_all, allFrom_iff, Bool.or_eq_true, upB_iff, upB_turn h]
  constructor
  · intro hh i h1 hi
    rw [turnAt_iff h (by omega)]
    rcases hh with hh | hh
    · have a := hh i h1 (by omega)
      have b := hh (i + 1) (by omega) (by omega)
      unfold dn
      rw [a, b]
      omega
    · have a := hh i h1 (by omega)
      have b := hh (i + 1) (by omega) (by omega)
      unfold dn
      rw [← Decidable.not_iff_not, a, b]
      omega
  · intro hh
    have key : ∀ j, 1 ≤ j → j < l.length → (dn l j ↔ (dn l 1 ↔ j % 2 = 1)) := by
      intro j
      induction j with
      | zero => intro h1; omega
      | succ j ih =>
        intro _ hj
        by_cases hj0 : j = 0
        · subst hj0
          simp
        · have h3 := (turnAt_iff h (by omega)).1 (hh j (by omega) (by omega))
          have h4 := ih (by omega) (by omega)
          have h5 : ((j + 1) % 2 = 1) ↔ ¬ (j % 2 = 1) := by omega
          rw [h5]
          by_cases d1 : dn l 1 <;> by_cases d2 : dn l j <;> by_cases d3 : dn l (j + 1) <;> simp_all
    by_cases d1 : dn l 1
    · refine .inl fun j h1 hj => ?_
      have := key j h1 hj
      simp only [d1, true_iff] at this
      exact this
    · refine .inr fun j h1 hj => ?_
      have := key j h1 hj
      simp only [d1, false_iff] at this
      unfold dn at this
      rw [this, Decidable.not_not]
theorem rev_row {l : List Int} (h : IsRow l) : IsRow l.reverse :=
  ⟨by rw [List.length_reverse]; exact h.1, fun x hx => by rw [List.length_reverse]; exact h.2.1 x (List.mem_reverse.1 hx), (List.reverse_perm l).nodup_iff.2 h.2.2⟩
theorem rev_getD (l : List Int) {i : Nat} (h : i < l.length) : l.reverse.getD i 0 = l.getD (l.length - 1 - i) 0 := by
  rw [getD_at (by rw [List.length_reverse]; exact h), getD_at (by omega), List.getElem_reverse]
theorem rev_up {l : List Int} (h : l.Nodup) (he : l.length % 2 = 0) (hu : upB l = true) : upB (turnL l).reverse = true := by
  rw [upB_iff] at hu ⊢
  rw [List.length_reverse, turnL_length]
  intro j h1 hj
  have a := hu (l.length - j) (by omega) (by omega)
  have hne := row_ne h (show l.length - j - 1 ≠ l.length - j by omega) (by omega) (by omega)
  rw [rev_getD _ (by rw [turnL_length]; omega), rev_getD _ (by rw [turnL_length]; omega), turnL_length, turnL_getD l (by omega), turnL_getD l (by omega)]
  have e1 : l.length - 1 - (j - 1) = l.length - j := by omega
  have e2 : l.length - 1 - j = l.length - j - 1 := by omega
  rw [e1, e2]
  have e3 : (l.length - j) % 2 = 1 ↔ j % 2 = 1 := by omega
  rw [← e3, ← a]
  omega
theorem rev_l0 (t : List Int) (h : IsRow t) (hu : upB t.reverse = true) : ∀ n k (i : Nat), n + i = t.length → n + 60 < k → clochelaw05_WavesTurned.l0 k t (t.reverse.take i) ((n : Int) - 1) = some true
  | 0, k, i, hi, hk => by
    obtain ⟨k, rfl, hk'⟩ := succK hk
    simp only [clochelaw05_WavesTurned.l0]
    rw [if_neg (by omega), List.take_of_length_le (by rw [List.length_reverse]; omega), IsWave_f _ k (by omega), Option.bind_some, if_pos ((rowS_zero _).2 (rev_row h))]
    simp only [hu, if_true]
    rw [alive k (by omega)]
    rfl
  | n + 1, k, i, hi, hk => by
    obtain ⟨k, rfl, hk'⟩ := succK hk
    have h10 := h.1
    have e1 : ((n + 1 : Nat) : Int) - 1 = (n : Int) := by omega
    rw [e1]
    simp only [clochelaw05_WavesTurned.l0]
    rw [if_pos (by omega), if_pos (by omega), if_pos (by omega), if_pos (by rw [List.length_take, List.length_reverse]; omega), rdn, w64 (by omega) (by omega)]
    have e3 : t.reverse.take i ++ [t.getD n 0] = t.reverse.take (i + 1) := by
      rw [List.take_add_one, List.getElem?_eq_getElem (by rw [List.length_reverse]; omega)]
      have : t.getD n 0 = t.reverse[i]'(by rw [List.length_reverse]; omega) := by
        rw [getD_at (by omega), List.getElem_reverse]
        congr 1
        omega
      rw [this]
      rfl
    rw [e3]
    exact rev_l0 t h hu n k (i + 1) (by omega) (by omega)
theorem WavesTurned : clochelaw05_WavesTurned.Pure := by
  intro l _ _ _
  refine ⟨200, ?_⟩
  unfold clochelaw05_WavesTurned.f
  have hj0 : clochelaw05_WavesTurned.j0 200 l true = some true := by
    simp only [clochelaw05_WavesTurned.j0, if_true]
    rw [alive 199 (by omega)]
    rfl
  by_cases h60 : (l.length : Int) > 60
  · rw [if_pos h60, hj0]
  rw [if_neg h60, Row_f l 200 (by omega), Option.bind_some]
  by_cases hr0 : ¬ rowS l = 0
  · have : (rowS l != 0) = true := bne_iff_ne.2 hr0
    rw [this, hj0]
  have hr := Decidable.not_not.1 hr0
  have h := (rowS_zero l).1 hr
  have h10 := h.1
  have ht := turnL_row h
  rw [hr]
  show clochelaw05_WavesTurned.j0 200 l false = some true
  have hbl : cntFrom (turnAt l) 1 (l.length - 2) ≤ l.length - 2 := cntFrom_le _ _ _
  have hj2 : clochelaw05_WavesTurned.j1 199 (l.length : Int) (upB l) (turnL l) false = some true := by
    simp only [clochelaw05_WavesTurned.j1]
    rw [if_neg (by decide)]
    have ha : clochelaw05_WavesTurned.j2 198 (turnL l) true = some true := by
      simp only [clochelaw05_WavesTurned.j2, if_true]
      rw [alive 197 (by omega)]
      rfl
    cases hu : upB l
    · rw [if_neg (by decide)]
      exact ha
    · rw [if_pos rfl, tmod2]
      cases he : (l.length % 2 == 1)
      · simp only [clochelaw05_WavesTurned.j2]
        rw [if_neg (by decide), turnL_length, w64 (by omega) (by omega)]
        have he' : l.length % 2 = 0 := by
          have : ¬ l.length % 2 = 1 := by simpa using he
          omega
        have := rev_l0 (turnL l) ht (rev_up h.2.2 he' hu) l.length 197 0 (by rw [turnL_length]; omega) (by omega)
        rw [List.take_zero] at this
        exact this
      · exact ha
  simp only [clochelaw05_WavesTurned.j0]
  rw [if_neg (by decide), IsWave_f l 199 (by omega), Option.bind_some, Turned_f l h 199 (by omega), Option.bind_some, IsWave_f _ 199 (by omega), Option.bind_some, Turned_f _ ht 199 (by omega), Option.bind_some, Turns_f l h 199 (by omega), Option.bind_some, if_pos hr, if_pos ((rowS_zero _).2 ht)]
  simp only [if_true, turnL_turnL]
  rw [same_f l l 199 (by omega) (by omega), Option.bind_some, decide_eq_true rfl, if_pos rfl]
  by_cases h2 : (l.length : Int) ≥ 2
  · rw [if_pos h2, w64 (by omega) (by omega)]
    have hal := alternate h.2.2 (by omega)
    have hc : (((cntFrom (turnAt l) 1 (l.length - 2) : Nat) : Int) == (l.length : Int) - 2) = (upB l || upB (turnL l)) := by
      rw [Bool.eq_iff_iff, beq_iff_eq, hal]
      omega
    rw [hc]
    cases hu : upB l
    · rw [if_neg (by decide), Bool.false_or]
      rw [hu] at hj2
      cases hv : upB (turnL l) <;> exact hj2
    · rw [if_pos rfl]
      rw [hu] at hj2
      exact hj2
  · rw [if_neg h2]
    exact hj2
end Go.Proofs.Ytmigibamdeodpaa.Pure
