/- BlocksCores: both packages find the same cores. -/
import Derived.Test.YtcmphfcpiciehaaBCor
import Derived.Test.YtcmphfcpiciehaaPrintx36
namespace Go.Proofs.Ytcmphfcpiciehaa.Pure
open Go.RowKit Go.Proofs.Ytcmphfcpiciehaa.Print Go.Proofs.YtcmphfcpiciehaaW.PrintWords Go.Proofs.YtcmphfcpiciehaaW.PrintLast Go.Proofs.YtcmphfcpiciehaaW.PrintMore
theorem shapes_big_l0 (a : List (List Int)) (ha : a.length ≤ 10000000) (hb : ∀ x ∈ a, x.length ≤ 1000) : ∀ m k (i : Nat), i + m = a.length → 1100 + m + 1 ≤ k → clochelaw04_shapes.l0 k a a (i : Int) = some true
  | 0, k, i, hi, hk => by
    obtain ⟨k, rfl, _⟩ := succK (show 0 < k by omega)
    rw [clochelaw04_shapes.l0, if_neg (by omega)]
  | m + 1, k, i, hi, hk => by
    obtain ⟨k, rfl, _⟩ := succK (show 0 < k by omega)
    have hil : i < a.length := by omega
    have hrd : rd_L1 a (i : Int) = a[i] := by
      unfold rd_L1
      rw [Int.toNat_natCast, List.getD_eq_getElem?_getD, List.getElem?_eq_getElem hil]
      rfl
    have hm := hb a[i] (List.getElem_mem hil)
    rw [clochelaw04_shapes.l0, if_pos (by omega), if_pos (by omega), if_pos (by omega), hrd, same_self _ (by omega) k (by omega), Option.bind_some, if_pos rfl, inc64 i (by omega), shapes_big_l0 a ha hb m k (i + 1) (by omega) (by omega)]
theorem coresV_ok (a0 a1 : Int) : (coresV a0 a1).1.length ≤ 2000000 ∧ ∀ x ∈ (coresV a0 a1).1, x.length ≤ 1000 := by
  unfold coresV
  by_cases c : (decide (0 ≤ a0) && decide (a0 ≤ 20) && decide (2 ≤ a1) && decide (a1 ≤ 6)) = true
  · rw [if_pos c]
    simp only [Bool.and_eq_true, decide_eq_true_eq] at c
    obtain ⟨n, rfl⟩ : ∃ n : Nat, a0 = n := ⟨a0.toNat, by omega⟩
    rw [Int.toNat_natCast]
    have hp : 2 ^ n ≤ 2 ^ 20 := Nat.pow_le_pow_right (by decide) (by omega)
    have hp2 : (2 : Nat) ^ 20 = 1048576 := by decide
    have h1 := gO_len true (n + 1) [] n n
    refine ⟨Nat.le_trans (List.length_filter_le _ _) (by omega), fun x hx => ?_⟩
    obtain ⟨q1, q2, q3, _⟩ := gO_mem true _ _ _ _ x (List.mem_filter.1 hx).1 (sh_nil n)
    have h2 := sum_len 1 x q2
    rw [List.sum_nil] at q3
    omega
  · rw [if_neg c]
    exact ⟨Nat.zero_le _, fun x hx => by cases hx⟩
theorem BlocksCores : clochelaw04_BlocksCores.Pure := by
  intro a0 a1 _ _
  obtain ⟨k, hk⟩ : ∃ k, k = 3000000 := ⟨_, rfl⟩
  refine ⟨k, ?_⟩
  obtain ⟨h1, h2⟩ := coresV_ok a0 a1
  have hs : clochelaw04_shapes.f k (coresV a0 a1).1 (coresV a0 a1).1 = some true := by
    unfold clochelaw04_shapes.f
    rw [if_pos rfl]
    exact shapes_big_l0 _ (by omega) h2 (coresV a0 a1).1.length k 0 (by omega) (by omega)
  unfold clochelaw04_BlocksCores.f
  rw [bCores_f a0 a1 k (by omega), Option.bind_some, rCores_f a0 a1 k (by omega), Option.bind_some, hs, Option.bind_some, if_pos rfl, if_pos rfl, alive k (by omega), Option.bind_some]
end Go.Proofs.Ytcmphfcpiciehaa.Pure
