/- WavesSpringer: a row is a snake exactly if, turned, it is a wave; the numbers of snakes. -/
import Derived.Test.YtmigibamdeodpaaTurnL
import Derived.Test.YtmigibamdeodpaaSnake1
import Derived.Test.YtmigibamdeodpaaPrintx25
namespace Go.Proofs.Ytmigibamdeodpaa.Pure
open Go.RowKit Go.Proofs.Ytmigibamdeodpaa.Print Go.Proofs.YtmigibamdeodpaaW.PrintWords Go.Proofs.YtmigibamdeodpaaW.PrintLast Go.Proofs.YtmigibamdeodpaaW.PrintMore
theorem snakesAll : ((List.range 7).all fun t => waves_Snakes.f 100 (t : Int) == some (rd [1, 1, 3, 11, 57, 361, 2763] (t : Int), 0)) = true := by decide +kernel
theorem row_snE {l : List Int} (h : IsRow l) (h6 : l.length ≤ 6) : snE l = 0 := by
  unfold snE
  rw [if_neg (by omega), snFrom_zero l l.length 0 (by omega)]
  intro j _ hj
  have a := h.2.1 _ (getD_mem hj)
  refine ⟨by omega, by omega, by omega, fun hm => ?_⟩
  obtain ⟨i, hi, e⟩ := List.mem_take_iff_getElem.1 hm
  rw [absL_length] at hi
  have b := h.2.1 _ (getD_mem (show i < l.length by omega))
  have e2 := absL_getD l (show i < l.length by omega)
  rw [getD_at (by rw [absL_length]; omega), e] at e2
  exact row_ne h.2.2 (show i ≠ j by omega) (by omega) hj (by omega)
theorem row_fin {l : List Int} (h : IsRow l) : finB l = upB (turnL l) := by
  rw [Bool.eq_iff_iff]
  unfold finB
  rw [Bool.or_eq_true, Bool.and_eq_true, decide_eq_true_eq, decide_eq_true_eq, upB_iff, upB_iff, negL_length, turnL_length]
  have key : (∀ j, 1 ≤ j → j < l.length → ((negL l).getD (j - 1) 0 < (negL l).getD j 0 ↔ j % 2 = 1)) ↔ (∀ j, 1 ≤ j → j < l.length → ((turnL l).getD (j - 1) 0 < (turnL l).getD j 0 ↔ j % 2 = 1)) := by
    constructor
    · intro hh j h1 h2
      rw [← hh j h1 h2, negL_getD l h2, negL_getD l (by omega), turnL_getD l h2, turnL_getD l (by omega)]
      omega
    · intro hh j h1 h2
      rw [← hh j h1 h2, negL_getD l h2, negL_getD l (by omega), turnL_getD l h2, turnL_getD l (by omega)]
      omega
  rw [key]
  constructor
  · rintro (h0 | ⟨_, hh⟩)
    · intro j h1 h2
      omega
    · exact hh
  · intro hh
    by_cases h0 : (l.length : Int) = 0
    · exact .inl h0
    · have := h.2.1 _ (getD_mem (show 0 < l.length by omega))
      exact .inr ⟨by omega, hh⟩
theorem WavesSpringer : clochelaw05_WavesSpringer.Pure := by
  intro l a _ _ _ ha
  have hr : 0 ≤ a ∧ a < 256 := by
    have h1 : IntKind.u8.min = 0 := rfl
    have h2 : IntKind.u8.max = 255 := rfl
    simp [Lit.wf] at ha
    omega
  refine ⟨100, ?_⟩
  unfold clochelaw05_WavesSpringer.f
  have hb : 0 ≤ Int.tmod a 7 ∧ Int.tmod a 7 < 7 := ⟨Int.tmod_nonneg _ hr.1, Int.tmod_lt_of_pos _ (by decide)⟩
  rw [w64 (by omega) (by omega)]
  obtain ⟨t, ht⟩ := Int.eq_ofNat_of_zero_le hb.1
  rw [ht]
  have hs := beq_iff_eq.1 (List.all_eq_true.1 snakesAll t (List.mem_range.2 (by omega)))
  rw [hs]
  simp only [Option.bind_some, if_true, bne_self_eq_false, List.length_cons, List.length_nil]
  rw [if_pos (by omega), if_pos (by omega)]
  have hj1 : ∀ k, 60 ≤ k → clochelaw05_WavesSpringer.j1 k l true = some true := by
    intro k hk
    obtain ⟨k, rfl, hk'⟩ := succK (show 59 < k by omega)
    simp only [clochelaw05_WavesSpringer.j1, if_true]
    rw [alive k (by omega)]
    rfl
  simp only [clochelaw05_WavesSpringer.j0]
  rw [if_neg (by decide)]
  by_cases h6 : (l.length : Int) > 6
  · rw [if_pos h6, hj1 99 (by omega)]
  rw [if_neg h6, Row_f l 99 (by omega), Option.bind_some]
  by_cases hr0 : ¬ rowS l = 0
  · have : (rowS l != 0) = true := bne_iff_ne.2 hr0
    rw [this, hj1 99 (by omega)]
  have hr := Decidable.not_not.1 hr0
  have h := (rowS_zero l).1 hr
  rw [hr]
  show clochelaw05_WavesSpringer.j1 99 l false = some true
  simp only [clochelaw05_WavesSpringer.j1]
  rw [if_neg (by decide), Turned_f l h 98 (by omega), Option.bind_some, IsWave_f _ 98 (by omega), Option.bind_some, IsSnake_f l 98 (by omega), Option.bind_some, row_snE h (by omega), if_pos ((rowS_zero _).2 (turnL_row h))]
  simp only [outS, if_true, row_fin h, beq_self_eq_true]
  rw [alive 98 (by omega)]
  rfl
end Go.Proofs.Ytmigibamdeodpaa.Pure
