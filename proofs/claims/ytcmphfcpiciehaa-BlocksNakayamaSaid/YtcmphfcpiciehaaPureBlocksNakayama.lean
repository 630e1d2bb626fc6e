/- BlocksNakayama: each strip leads to the same core. -/
import Derived.Test.YtcmphfcpiciehaaBRun
import Derived.Test.YtcmphfcpiciehaaPrintx33
namespace Go.Proofs.Ytcmphfcpiciehaa.Pure
open Go.RowKit Go.Proofs.Ytcmphfcpiciehaa.Print Go.Proofs.YtcmphfcpiciehaaW.PrintWords Go.Proofs.YtcmphfcpiciehaaW.PrintLast Go.Proofs.YtcmphfcpiciehaaW.PrintMore
theorem rdLn (a : List (List Int)) (i : Nat) (h : i < a.length) : rd_L1 a (i : Int) = a[i] := by
  unfold rd_L1
  rw [Int.toNat_natCast, List.getD_eq_getElem?_getD, List.getElem?_eq_getElem h]
  rfl
theorem N_l0 (l : List Int) (hs : Shp l) (t : Int) (h2 : 2 ≤ t) (h6 : t ≤ 6) : ∀ m k (i : Nat), i + m = (strp t l).length → 2 * m + 300 ≤ k → clochelaw04_BlocksNakayama.l0 k l t (core t l).1 (core t l).2 (strp t l) i = some true
  | 0, k, i, h, hk => by
    obtain ⟨k, rfl, _⟩ := succK (show 0 < k by omega)
    simp only [clochelaw04_BlocksNakayama.l0]
    rw [if_neg (by omega), alive k (by omega)]
    rfl
  | m + 1, k, i, h, hk => by
    have hi : i < (strp t l).length := by omega
    have hlen := strp_length t l
    have hl := hs.len
    obtain ⟨k, rfl⟩ : ∃ K, k = K + 1 + 1 := ⟨k - 2, by omega⟩
    have ih := N_l0 l hs t h2 h6 m k (i + 1) (by omega) (by omega)
    have hm : (strp t l)[i] ∈ strp t l := List.getElem_mem hi
    obtain ⟨g1, g2, g3, g4⟩ := core_strip (show 0 < t by omega) hs hm
    have gs := hs.sum
    have g0 := shp_sum0 hs
    have gn := core_nn t l
    have hc := (coreS_shp (show 0 ≤ t by omega) 40 l hs).len
    have e : clochelaw04_BlocksNakayama.l0 (k + 1 + 1) l t (core t l).1 (core t l).2 (strp t l) i = clochelaw04_BlocksNakayama.j3 (k + 1) l t (core t l).1 (core t l).2 (strp t l) i false := by
      generalize hF : k + 1 = F
      simp only [clochelaw04_BlocksNakayama.l0]
      rw [if_pos (by omega), if_pos (by omega), rdLn _ i hi, rIs_f _ F (by omega), Option.bind_some, (isShp_iff _).2 g1, if_pos rfl, rSum_f _ g1 F (by omega), Option.bind_some, rSum_f _ hs F (by omega), Option.bind_some, g2, w64 (show -9223372036854775808 ≤ l.sum - t by omega) (by omega), bne_self_eq_false]
    rw [e]
    simp only [clochelaw04_BlocksNakayama.j3]
    rw [if_neg (by decide), if_pos (by omega), if_pos (by omega), rdLn _ i hi, bCore_f _ t k (by omega), if_pos (okW_of g1 h2 h6), Option.bind_some, if_pos rfl, g3, same_self _ (show (core t l).1.length ≤ 1000000 by unfold core; omega) k (show (core t l).1.length < k by unfold core; omega), Option.bind_some, if_pos rfl, if_pos (show (core t (strp t l)[i]).2 = wrap64 ((core t l).2 - 1) by rw [w64 (by omega) (by omega)]; omega), inc64 i (by omega)]
    exact ih
theorem BlocksNakayama : clochelaw04_BlocksNakayama.Pure := by
  intro l a _ _ _ ha
  obtain ⟨k, hk⟩ : ∃ k, k = 3000 := ⟨_, rfl⟩
  refine ⟨k + 2, ?_⟩
  obtain ⟨t, hw, h2, h6⟩ := wires_of a ha
  have hbad : clochelaw04_BlocksNakayama.j0 (k + 2) l a true = some true := by
    simp only [clochelaw04_BlocksNakayama.j0]
    rw [if_pos trivial, alive _ (by omega)]
    rfl
  unfold clochelaw04_BlocksNakayama.f
  rw [few_f l _ (by omega), Option.bind_some]
  by_cases hL : l.length ≤ 60
  · rw [decide_eq_true hL, if_pos rfl, rIs_f l _ (by omega), Option.bind_some]
    cases h : isShp l
    · exact hbad
    · have hs := (isShp_iff l).1 h
      have ho := okW_of hs h2 h6
      have hlen := strp_length t l
      have hl := hs.len
      obtain ⟨c1, c2⟩ := core_okW ho
      have hc := (coreS_shp (show 0 ≤ t by omega) 40 l hs).len
      show clochelaw04_BlocksNakayama.j0 (k + 1 + 1) l a false = some true
      have hl0 := N_l0 l hs t h2 h6 (strp t l).length k 0 (by omega) (by omega)
      have hj1 : clochelaw04_BlocksNakayama.j1 (k + 1) l t (core t l).1 (core t l).2 (strp t l) false = some true := by
        simp only [clochelaw04_BlocksNakayama.j1]
        rw [if_neg (by decide)]
        exact hl0
      obtain ⟨F, hF⟩ : ∃ F, F = k + 1 := ⟨_, rfl⟩
      rw [← hF] at hj1 ⊢
      simp only [clochelaw04_BlocksNakayama.j0]
      rw [if_neg (by decide), hw, Option.bind_some, bCore_f l t F (by omega), if_pos ho, Option.bind_some, bStrips_f l t F (by omega), if_pos ho, Option.bind_some, bIsCore_f l t F (by omega), if_pos ho, Option.bind_some, bIsCore_f _ t F (by omega), if_pos c1, Option.bind_some, c2]
      dsimp only
      rw [if_pos rfl, if_pos rfl, if_pos rfl, if_pos rfl, if_pos (show ((([] : List (List Int)).length : Int) == 0) = true from rfl), bne_self_eq_false, if_neg (by decide)]
      rw [same_f _ _ (show (core t l).1.length ≤ 1000000 by unfold core; omega) F (show (core t l).1.length < F by unfold core; omega), Option.bind_some]
      cases e : strp t l with
      | nil =>
        rw [e] at hj1
        have hc := core_nil e
        rw [hc] at hj1 ⊢
        rw [if_neg (by simp), decide_eq_true (show (l, (0 : Int)).1 = l from rfl)]
        exact hj1
      | cons s r =>
        rw [e] at hj1
        obtain ⟨hp, hne⟩ := core_cons (show 0 < t by omega) hs (show strp t l ≠ [] by rw [e]; simp)
        have e1 : ((((s :: r).length : Nat) : Int) == 0) = false := beq_eq_false_iff_ne.2 (by rw [List.length_cons]; omega)
        have e2 : ((core t l).2 == 0) = false := beq_eq_false_iff_ne.2 (by omega)
        rw [e1, e2, decide_eq_false hne, if_neg (by decide)]
        exact hj1
  · rw [decide_eq_false hL, if_neg (by decide)]
    exact hbad
end Go.Proofs.Ytcmphfcpiciehaa.Pure
