/- BlocksBack: the blocks of a core and of a quotient are counted; Of of both is the shape. -/
import Derived.Test.YtcmphfcpiciehaaBOfW
import Derived.Test.YtcmphfcpiciehaaPrintx25
namespace Go.Proofs.Ytcmphfcpiciehaa.Pure
open Go.RowKit Go.Proofs.Ytcmphfcpiciehaa.Print Go.Proofs.YtcmphfcpiciehaaW.PrintWords Go.Proofs.YtcmphfcpiciehaaW.PrintLast Go.Proofs.YtcmphfcpiciehaaW.PrintMore
set_option linter.unusedVariables false
theorem quo_okO {T : Nat} {l : List Int} (h2 : 2 ≤ T) (h6 : T ≤ 6) (hs : Shp l) : okO (core T l).1 (quo T l) = true := by
  have hw := okW_of (t := T) hs (by omega) (by omega)
  obtain ⟨h1, h3⟩ := core_okW hw
  have hq : okQ (quo T l) = true := (okQ_iff _).2 fun k hk => quo_shp h2 h6 hs k (by rw [quo_length] at hk; exact hk)
  unfold okO
  rw [quo_length, h1, hq, h3]
  rfl
theorem of_back {T : Nat} {l : List Int} (h2 : 2 ≤ T) (h6 : T ≤ 6) (hs : Shp l) (k : Nat) (hk : 12000 ≤ k) : blocks_Of.f k (core T l).1 (quo T l) = some (l, 0) := by
  have hN : l.length ≤ 24 * T := by have := hs.len; omega
  have hB := ofB_of (show 0 < T by omega) (24 * T) (core T l).1 (q := fun k => (quo T l).getD k []) (fun k hk => (quo_shp h2 h6 hs k hk).dr)
  have hb := back_eq h2 h6 hs hN (Nat.mul_mod_left _ _) hB
  rw [bOf_f _ _ (by rw [quo_length]; omega) k hk, if_pos (quo_okO h2 h6 hs)]
  unfold ofEnd
  rw [quo_length, hb, (isShp_iff l).2 hs, if_pos rfl]
theorem B_l0 (l : List Int) (hs : Shp l) (T : Nat) (h2 : 2 ≤ T) (h6 : T ≤ 6) : ∀ n k (i : Nat) (s : Int), i + n = T → n + 15000 ≤ k → 0 ≤ s → s ≤ 40 * i → s + ((List.range' i n).map fun j => ((quo T l).getD j []).sum).sum = (core T l).2 → clochelaw04_BlocksBack.l0 k l T (core T l).1 (core T l).2 (quo T l) s i = some true
  | 0, k, i, s, h, hk, h0, h1, e => by
    obtain ⟨k, rfl⟩ : ∃ K, k = K + 2 := ⟨k - 2, by omega⟩
    have e : s = (core T l).2 := by simpa using e
    have hc := (core_of (show (0 : Int) < T by omega) hs (Nat.le_refl l.length)).shp
    have hsum := core_sum (show (0 : Int) < T by omega) hs
    have hl40 := hs.sum
    have hl0 := shp_sum0 hs
    have hc0 := shp_sum0 hc
    have hm0 := Int.mul_nonneg (show 0 ≤ (T : Int) by omega) (core_nn T l).1
    have hj3 : clochelaw04_BlocksBack.j3 (k + 1) l (core T l).1 (quo T l) false = some true := by
      simp only [clochelaw04_BlocksBack.j3]
      rw [if_neg (by decide), of_back h2 h6 hs k (by omega), Option.bind_some]
      dsimp only
      rw [if_pos rfl, same_self l (by have := hs.len; omega) k (by have := hs.len; omega), Option.bind_some, if_pos rfl, alive k (by omega)]
      rfl
    generalize hF : k + 1 = F at hj3
    rw [show k + 2 = F + 1 by omega]
    simp only [clochelaw04_BlocksBack.l0]
    rw [if_neg (by omega), rSum_f _ hc F (by omega), Option.bind_some, rSum_f _ hs F (by omega), Option.bind_some, e, w64 (z := (T : Int) * (core T l).2) (by omega) (by omega), hsum, w64 (by omega) (by omega), if_pos rfl, bne_self_eq_false]
    exact hj3
  | n + 1, k, i, s, h, hk, h0, h1, e => by
    obtain ⟨k, rfl, _⟩ := succK (show 0 < k by omega)
    have hq := quo_shp h2 h6 hs i (by omega)
    have q0 := shp_sum0 hq
    have q1 := hq.sum
    rw [range'_succ', List.map_cons, List.sum_cons] at e
    have ih := B_l0 l hs T h2 h6 n k (i + 1) (s + ((quo T l).getD i []).sum) (by omega) (by omega) (by omega) (by omega) (by rw [Int.add_assoc]; exact e)
    simp only [clochelaw04_BlocksBack.l0]
    rw [if_pos (by omega), if_pos (by omega), if_pos (by rw [quo_length]; omega), rdLd, rIs_f _ k (by omega), Option.bind_some, (isShp_iff _).2 hq, if_pos rfl, rSum_f _ hq k (by omega), Option.bind_some, w64 (by omega) (by omega), inc64 i (by omega)]
    exact ih
theorem BlocksBack : clochelaw04_BlocksBack.Pure := by
  intro l a _ _ _ ha
  obtain ⟨k, hk⟩ : ∃ k, k = 20000 := ⟨_, rfl⟩
  refine ⟨k + 3, ?_⟩
  obtain ⟨t, hw, h2, h6⟩ := wires_of a ha
  have hbad : clochelaw04_BlocksBack.j0 (k + 3) l a true = some true := by
    simp only [clochelaw04_BlocksBack.j0]
    rw [if_pos trivial, alive _ (by omega)]
    rfl
  unfold clochelaw04_BlocksBack.f
  rw [few_f l _ (by omega), Option.bind_some]
  by_cases hL : l.length ≤ 60
  · rw [decide_eq_true hL, if_pos rfl, rIs_f l _ (by omega), Option.bind_some]
    cases h : isShp l
    · exact hbad
    · have hs := (isShp_iff l).1 h
      obtain ⟨T, rfl⟩ : ∃ T : Nat, t = T := ⟨t.toNat, by omega⟩
      have ho := okW_of hs h2 h6
      have hN : l.length ≤ 24 * T := by have := hs.len; omega
      show clochelaw04_BlocksBack.j0 (k + 2 + 1) l a false = some true
      have hstr := strips_sum (q := fun k => (quo T l).getD k []) (by omega) (core_of (show (0 : Int) < T by omega) hs hN) hN (back_of (by omega) (by omega) hs hN (Nat.mul_mod_left _ _) (core_of (show (0 : Int) < T by omega) hs hN))
      have hj1 : clochelaw04_BlocksBack.j1 (k + 1 + 1) l T (core T l).1 (core T l).2 (quo T l) false = some true := by
        simp only [clochelaw04_BlocksBack.j1]
        rw [if_neg (by decide)]
        exact B_l0 l hs T (by omega) (by omega) T (k + 1) 0 0 (by omega) (by omega) (Int.le_refl _) (by omega) (by rw [Int.zero_add]; exact hstr.symm)
      generalize hF : k + 1 + 1 = F at hj1
      simp only [clochelaw04_BlocksBack.j0]
      rw [if_neg (by decide), hw, Option.bind_some, bCore_f l T F (by omega), if_pos ho, Option.bind_some, bQuotient_f l T F (by omega), if_pos ho, Option.bind_some]
      dsimp only
      rw [if_pos rfl, if_pos rfl, quo_length, bne_self_eq_false]
      exact hj1
  · rw [decide_eq_false hL, if_neg (by decide)]
    exact hbad
end Go.Proofs.Ytcmphfcpiciehaa.Pure
