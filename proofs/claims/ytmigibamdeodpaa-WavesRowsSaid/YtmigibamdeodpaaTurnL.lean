/- What waves.Turned computes on rows. -/
import Derived.Test.YtmigibamdeodpaaBase
import Derived.Test.YtmigibamdeodpaaPrintx22
namespace Go.Proofs.Ytmigibamdeodpaa.Pure
open Go.RowKit Go.Proofs.Ytmigibamdeodpaa.Print Go.Proofs.YtmigibamdeodpaaW.PrintWords Go.Proofs.YtmigibamdeodpaaW.PrintLast Go.Proofs.YtmigibamdeodpaaW.PrintMore
def turnL (l : List Int) : List Int := l.map fun x => (l.length : Int) + 1 - x
theorem turnL_length (l : List Int) : (turnL l).length = l.length := by simp [turnL]
theorem turnL_getD (l : List Int) {i : Nat} (h : i < l.length) : (turnL l).getD i 0 = (l.length : Int) + 1 - l.getD i 0 := by
  rw [getD_at (by rw [turnL_length]; exact h), getD_at h]
  simp [turnL]
theorem turned_l0 (l : List Int) (hl : l.length ≤ 10) (hr : ∀ x ∈ l, 1 ≤ x ∧ x ≤ l.length) : ∀ n k (i : Nat), i + n = l.length → n < k → waves_turned.l0 k l ((turnL l).take i) l l.length i = some (turnL l)
  | 0, k, i, h, hk => by
    obtain ⟨k, rfl, _⟩ := succK hk
    simp only [waves_turned.l0]
    rw [if_neg (by omega), List.take_of_length_le (by rw [turnL_length]; omega)]
  | n + 1, k, i, h, hk => by
    obtain ⟨k, rfl, hk'⟩ := succK hk
    have e2 : wrap64 ((i : Int) + 1) = ((i + 1 : Nat) : Int) := by rw [w64 (by omega) (by omega)]; omega
    have e0 : wrap64 ((l.length : Int) + 1) = (l.length : Int) + 1 := w64 (by omega) (by omega)
    have hi : i < l.length := by omega
    have hx := hr _ (getD_mem hi)
    simp only [waves_turned.l0]
    rw [if_pos (by omega), if_pos (by omega), if_pos (by omega), if_pos (by rw [List.length_take, turnL_length]; omega), rdn, e2, e0, w64 (by omega) (by omega)]
    have e3 : (turnL l).take i ++ [(l.length : Int) + 1 - l.getD i 0] = (turnL l).take (i + 1) := by
      rw [List.take_add_one, List.getElem?_eq_getElem (by rw [turnL_length]; exact hi), ← turnL_getD l hi, getD_at (by rw [turnL_length]; exact hi)]
      rfl
    rw [e3]
    exact turned_l0 l hl hr n k (i + 1) (by omega) (by omega)
theorem Turned_f (l : List Int) (h : IsRow l) (k : Nat) (hk : 11 ≤ k) : waves_Turned.f k l = some (turnL l, 0) := by
  unfold waves_Turned.f
  rw [read_f l k hk, Option.bind_some, if_pos ((rowS_zero l).2 h)]
  unfold waves_turned.f
  have := turned_l0 l h.1 h.2.1 l.length k 0 (by omega) (by have := h.1; omega)
  rw [List.take_zero] at this
  rw [show (0 : Int) = ((0 : Nat) : Int) from rfl, this]
  rfl
theorem turnL_row {l : List Int} (h : IsRow l) : IsRow (turnL l) := by
  refine ⟨by rw [turnL_length]; exact h.1, fun x hx => ?_, ?_⟩
  · rw [turnL_length]
    obtain ⟨y, hy, rfl⟩ := List.mem_map.1 hx
    have := h.2.1 y hy
    omega
  · unfold turnL
    rw [List.nodup_iff_pairwise_ne, List.pairwise_map]
    have := h.2.2
    rw [List.nodup_iff_pairwise_ne] at this
    exact this.imp (fun hne e => hne (by omega))
theorem turnL_turnL (l : List Int) : turnL (turnL l) = l := by
  unfold turnL
  rw [List.map_map, List.length_map]
  conv => rhs; rw [← List.map_id l]
  apply List.map_congr_left
  intro x _
  simp only [Function.comp, id]
  omega
theorem row_ne {l : List Int} (h : l.Nodup) {i j : Nat} (hij : i ≠ j) (hi : i < l.length) (hj : j < l.length) : l.getD i 0 ≠ l.getD j 0 := by
  rw [getD_at hi, getD_at hj]
  intro e
  exact hij ((List.getElem_inj h).1 e)
theorem upB_turn {l : List Int} (h : l.Nodup) : upB (turnL l) = true ↔ ∀ j, 1 ≤ j → j < l.length → (¬ l.getD (j - 1) 0 < l.getD j 0 ↔ j % 2 = 1) := by
  rw [upB_iff, turnL_length]
  constructor
  · intro hh j h1 h2
    have := hh j h1 h2
    rw [turnL_getD l h2, turnL_getD l (by omega)] at this
    have hne := row_ne h (show j - 1 ≠ j by omega) (by omega) h2
    rw [← this]
    omega
  · intro hh j h1 h2
    have := hh j h1 h2
    rw [turnL_getD l h2, turnL_getD l (by omega), ← this]
    have hne := row_ne h (show j - 1 ≠ j by omega) (by omega) h2
    omega
end Go.Proofs.Ytmigibamdeodpaa.Pure
