/- BlocksTurned: a shape turned has the hooks, the core and the quotient turned. -/
import Derived.Test.YtcmphfcpiciehaaBTurn
import Derived.Test.YtcmphfcpiciehaaBRef
import Derived.Test.YtcmphfcpiciehaaPrintx30
namespace Go.Proofs.Ytcmphfcpiciehaa.Pure
open Go.RowKit Go.Proofs.Ytcmphfcpiciehaa.Print Go.Proofs.YtcmphfcpiciehaaW.PrintWords Go.Proofs.YtcmphfcpiciehaaW.PrintLast Go.Proofs.YtcmphfcpiciehaaW.PrintMore
set_option linter.unusedVariables false
theorem rdLd (a : List (List Int)) (i : Nat) : rd_L1 a (i : Int) = a.getD i [] := by
  unfold rd_L1
  rw [Int.toNat_natCast]
theorem tTurned_f (l : List Int) (hs : Shp l) (k : Nat) (hk : 1000 ≤ k) : blocks_Turned.f k l = if l.getD 0 0 > 12 then some ([], 8) else some (cols l, 0) := by
  have hr : rd l 0 = l.getD 0 0 := rdn l 0
  unfold blocks_Turned.f
  rw [bIs_f l k (by omega), Option.bind_some, (isShp_iff l).2 hs, if_pos rfl, hr, turned_f l hs k (by omega), Option.bind_some]
  rcases Nat.eq_zero_or_pos l.length with e | e
  · have hl0 : l = [] := List.eq_nil_of_length_eq_zero e
    subst hl0
    rw [if_neg (by simp), if_neg (by simp)]
  · rw [if_pos (by omega), if_pos (by omega)]
theorem tHooks_f (l : List Int) (hs : Shp l) (k : Nat) (hk1 : 1000 ≤ k) : blocks_Hooks.f k l = some (hk l, 0) := by
  unfold blocks_Hooks.f
  rw [bIs_f l k (by omega), Option.bind_some, (isShp_iff l).2 hs, if_pos rfl, hooks_f l hs k (by omega), Option.bind_some]
theorem hk_getD {l : List Int} {r : Nat} (h : r < l.length) : (hk l).getD r [] = hkRow l r := by
  unfold hk
  rw [List.getD_eq_getElem?_getD, List.getElem?_map, List.getElem?_range' h]
  simp
theorem hk_length (l : List Int) : (hk l).length = l.length := by simp [hk]
theorem hkRow_getD {l : List Int} {r c : Nat} (h : c < (l.getD r 0).toNat) : (hkRow l r).getD c 0 = hook l r c := by
  unfold hkRow
  rw [List.getD_eq_getElem?_getD, List.getElem?_map, List.getElem?_range' h]
  simp
theorem hkRow_length (l : List Int) (r : Nat) : (hkRow l r).length = (l.getD r 0).toNat := by simp [hkRow]
theorem Tu_l2 (T : Nat) (h2 : 2 ≤ T) (h6 : T ≤ 6) (P Q : List (List Int)) (hP : P.length = T) (hQ : Q.length = T) (hPs : ∀ k, k < T → Shp (P.getD k [])) (hPQ : ∀ k, k < T → Q.getD (T - 1 - k) [] = cols (P.getD k [])) : ∀ n k (i : Nat), i + n = T → n + 2000 ≤ k → clochelaw04_BlocksTurned.l2 k T P Q i = some true
  | 0, k, i, h, hk => by
    obtain ⟨k, rfl, _⟩ := succK (show 0 < k by omega)
    simp only [clochelaw04_BlocksTurned.l2]
    rw [if_neg (by omega), alive k (by omega)]
    rfl
  | n + 1, k, i, h, hk => by
    obtain ⟨k, rfl, _⟩ := succK (show 0 < k by omega)
    have hsi := hPs i (by omega)
    have ih := Tu_l2 T h2 h6 P Q hP hQ hPs hPQ n k (i + 1) (by omega) (by omega)
    have hcl := cols_length (P.getD i [])
    have hh := hsi.head
    have hw : wrap64 (wrap64 ((T : Int) - 1) - i) = ((T - 1 - i : Nat) : Int) := by
      rw [w64 (z := (T : Int) - 1) (by omega) (by omega), w64 (by omega) (by omega)]
      omega
    simp only [clochelaw04_BlocksTurned.l2]
    rw [if_pos (by omega), if_pos (by omega), if_pos (by omega), rdLd, rIs_f _ k (by omega), Option.bind_some, (isShp_iff _).2 hsi, if_pos rfl, hw, if_pos (by omega), if_pos (by omega), rdLd, Col_f _ hsi k (by omega), Option.bind_some, hPQ i (by omega), same_self _ (by omega) k (by omega), Option.bind_some, if_pos rfl, inc64 i (by omega)]
    exact ih
theorem Tu_l1 (l : List Int) (hs : Shp l) (h12 : l.getD 0 0 ≤ 12) (T : Nat) (P Q : List (List Int)) (r : Nat) (hr : r < l.length) : ∀ n K (c : Nat), c + n = (l.getD r 0).toNat → clochelaw04_BlocksTurned.l1 (K + n + 1) l T (hk l) (hk (cols l)) P Q r c = clochelaw04_BlocksTurned.l0 K l T (hk l) (hk (cols l)) P Q ((r + 1 : Nat) : Int)
  | 0, K, c, h => by
    have hl := hs.len
    have hrl := hkRow_length l r
    simp only [clochelaw04_BlocksTurned.l1]
    rw [if_pos (by omega), if_pos (by rw [hk_length]; omega), rdLd, hk_getD hr, if_neg (by omega), inc64 r (by omega)]
  | n + 1, K, c, h => by
    have hl := hs.len
    have hrl := hkRow_length l r
    have hb := hs.bound _ (getD_mem hr)
    have hle := hs.le_head r hr
    have hcl := cols_length l
    have hc : c < (cols l).length := by omega
    have hcr : (cols l).getD c 0 = colI l c := cols_getD (by omega)
    have hlt := (col_lt hs.dr c r hr).2 (by omega)
    have hrl2 := hkRow_length (cols l) c
    rw [hcr] at hrl2
    have hhk : (hkRow (cols l) c).getD r 0 = (hkRow l r).getD c 0 := by
      rw [hkRow_getD (by rw [hcr]; omega), hkRow_getD (by omega)]
      exact hook_cols hs hr
    have ih := Tu_l1 l hs h12 T P Q r hr n K (c + 1) (by omega)
    obtain ⟨F, hF⟩ : ∃ F, F = K + n + 1 := ⟨_, rfl⟩
    rw [← hF] at ih
    rw [show K + (n + 1) + 1 = F + 1 by omega]
    simp only [clochelaw04_BlocksTurned.l1]
    rw [if_pos (by omega), if_pos (by rw [hk_length]; omega), rdLd, hk_getD hr, if_pos (by omega), if_neg (by rw [hk_length]; omega), if_pos (by omega), if_pos (by rw [hk_length]; omega), rdLd, hk_getD hc, if_neg (by omega), if_pos (by omega), rdn, rdn, if_pos hhk, inc64 c (by omega)]
    exact ih
theorem Tu_l0 (l : List Int) (hs : Shp l) (h12 : l.getD 0 0 ≤ 12) (T : Nat) (h2 : 2 ≤ T) (h6 : T ≤ 6) (P Q : List (List Int)) (hP : P.length = T) (hQ : Q.length = T) (hPs : ∀ k, k < T → Shp (P.getD k [])) (hPQ : ∀ k, k < T → Q.getD (T - 1 - k) [] = cols (P.getD k [])) : ∀ n k (r : Nat), r + n = l.length → 50 * n + 2010 ≤ k → clochelaw04_BlocksTurned.l0 k l T (hk l) (hk (cols l)) P Q r = some true
  | 0, k, r, h, hk => by
    obtain ⟨k, rfl, _⟩ := succK (show 0 < k by omega)
    simp only [clochelaw04_BlocksTurned.l0]
    rw [if_neg (by rw [hk_length]; omega)]
    exact Tu_l2 T h2 h6 P Q hP hQ hPs hPQ T k 0 (by omega) (by omega)
  | n + 1, k, r, h, hk => by
    have hr : r < l.length := by omega
    have hb := hs.bound _ (getD_mem hr)
    have hrl := hkRow_length l r
    obtain ⟨K, rfl⟩ : ∃ K, k = (K + (l.getD r 0).toNat + 1) + 1 := ⟨k - (l.getD r 0).toNat - 2, by omega⟩
    have h1 := Tu_l1 l hs h12 T P Q r hr (l.getD r 0).toNat K 0 (by omega)
    have ih := Tu_l0 l hs h12 T h2 h6 P Q hP hQ hPs hPQ n K (r + 1) (by omega) (by omega)
    generalize hF : K + (l.getD r 0).toNat + 1 = F at h1
    simp only [clochelaw04_BlocksTurned.l0]
    rw [if_pos (by rw [hk_length]; omega), if_pos (by omega), if_pos (by omega), rdLd, hk_getD hr, rdn, if_pos (by omega)]
    exact h1.trans ih
theorem BlocksTurned : clochelaw04_BlocksTurned.Pure := by
  intro l a _ _ _ ha
  obtain ⟨k, hk⟩ : ∃ k, k = 20000 := ⟨_, rfl⟩
  refine ⟨k + 3, ?_⟩
  obtain ⟨t, hw, h2, h6⟩ := wires_of a ha
  have hbad : clochelaw04_BlocksTurned.j0 (k + 3) l a true = some true := by
    simp only [clochelaw04_BlocksTurned.j0]
    rw [if_pos trivial, alive _ (by omega)]
    rfl
  unfold clochelaw04_BlocksTurned.f
  rw [few_f l _ (by omega), Option.bind_some]
  by_cases hL : l.length ≤ 60
  · rw [decide_eq_true hL, if_pos rfl, rIs_f l _ (by omega), Option.bind_some]
    cases h : isShp l
    · exact hbad
    · have hs := (isShp_iff l).1 h
      obtain ⟨T, rfl⟩ : ∃ T : Nat, t = T := ⟨t.toNat, by omega⟩
      have hl := hs.len
      show clochelaw04_BlocksTurned.j0 (k + 2 + 1) l a false = some true
      by_cases h12 : l.getD 0 0 > 12
      · have hpos : 0 < l.length := by
          rcases Nat.eq_zero_or_pos l.length with e | e
          · rw [List.eq_nil_of_length_eq_zero e] at h12
            simp at h12
          · exact e
        have hr : rd l 0 = l.getD 0 0 := rdn l 0
        generalize hF : k + 2 = F
        simp only [clochelaw04_BlocksTurned.j0]
        rw [if_neg (by decide), hw, Option.bind_some, tTurned_f l hs F (by omega), if_pos h12, Option.bind_some]
        dsimp only
        rw [if_neg (by decide), if_pos rfl, if_pos (by omega), if_pos (by omega), hr, if_pos h12, alive F (by omega)]
        rfl
      · have h12 : l.getD 0 0 ≤ 12 := by omega
        have ho := okW_of hs h2 h6
        have tu := turn_of (T := T) (by omega) (by omega) hs h12
        have hcs := tu.shp
        have ho2 := okW_of hcs h2 h6
        have hc1 := (core_of (show (0 : Int) < T by omega) hs (Nat.le_refl _)).shp
        have hch := cols_head hs.dr (shp_pos hs)
        have hl0 := Tu_l0 l hs h12 T (by omega) (by omega) (quo T l) (quo T (cols l)) (quo_length _ _) (quo_length _ _) (quo_shp (by omega) (by omega) hs) tu.quo l.length (k + 1) 0 (by omega) (by omega)
        have hj1 : clochelaw04_BlocksTurned.j1 (k + 1 + 1) l T (Pure.hk l) (Pure.hk (cols l)) (quo T l) (quo T (cols l)) false = some true := by
          simp only [clochelaw04_BlocksTurned.j1]
          rw [if_neg (by decide)]
          exact hl0
        have hccl := cols_length (core T l).1
        have hcch := hc1.head
        generalize hF : k + 1 + 1 = F at hj1
        simp only [clochelaw04_BlocksTurned.j0]
        rw [if_neg (by decide), hw, Option.bind_some, tTurned_f l hs F (by omega), if_neg (by omega), Option.bind_some]
        dsimp only
        rw [if_pos rfl, rIs_f _ F (by omega), Option.bind_some, (isShp_iff _).2 hcs, if_pos rfl, tTurned_f (cols l) hcs F (by omega), if_neg (by rw [hch]; omega), Option.bind_some, tHooks_f l hs F (by omega), Option.bind_some, tHooks_f (cols l) hcs F (by omega), Option.bind_some, bCore_f l T F (by omega), if_pos ho, Option.bind_some, bCore_f (cols l) T F (by omega), if_pos ho2, Option.bind_some, bQuotient_f l T F (by omega), if_pos ho, Option.bind_some, bQuotient_f (cols l) T F (by omega), if_pos ho2, Option.bind_some]
        dsimp only
        rw [if_pos rfl, if_pos rfl, if_pos rfl, if_pos rfl, if_pos rfl, if_pos rfl, if_pos rfl, tu.back, same_self l (by omega) F (by omega), Option.bind_some, if_pos rfl, Col_f _ hc1 F (by omega), Option.bind_some, tu.core, same_self _ (by omega) F (by omega), Option.bind_some, if_pos rfl, if_pos tu.many.symm, if_pos (by rw [quo_length]), if_pos (by rw [quo_length]), if_pos (by rw [hk_length]), hk_length (cols l), bne_self_eq_false]
        exact hj1
  · rw [decide_eq_false hL, if_neg (by decide)]
    exact hbad
end Go.Proofs.Ytcmphfcpiciehaa.Pure
