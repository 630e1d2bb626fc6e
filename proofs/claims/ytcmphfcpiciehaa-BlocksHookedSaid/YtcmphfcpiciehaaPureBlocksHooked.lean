/- BlocksHooked: the hooks whose length t divides, and those of length t, are counted. -/
import Derived.Test.YtcmphfcpiciehaaBGap
import Derived.Test.YtcmphfcpiciehaaPrintx34
namespace Go.Proofs.Ytcmphfcpiciehaa.Pure
open Go.RowKit Go.Proofs.Ytcmphfcpiciehaa.Print Go.Proofs.YtcmphfcpiciehaaW.PrintWords Go.Proofs.YtcmphfcpiciehaaW.PrintLast Go.Proofs.YtcmphfcpiciehaaW.PrintMore
theorem rdLn' (a : List (List Int)) (i : Nat) (h : i < a.length) : rd_L1 a (i : Int) = a[i] := by
  unfold rd_L1
  rw [Int.toNat_natCast, List.getD_eq_getElem?_getD, List.getElem?_eq_getElem h]
  rfl
def dv (t : Int) (l : List Int) : Nat := l.countP (fun x => decide (x % t = 0))
def js (t : Int) (l : List Int) : Nat := l.countP (fun x => decide (x = t))
theorem H_l1 (l : List Int) (t : Int) (ht : 0 < t) (H : List (List Int)) (n : Int) (S : List (List Int)) (is : Bool) (r : Nat) (hr : r < H.length) (hH : H.length ≤ 100) (hp : ∀ x ∈ H[r], 1 ≤ x) (hl : H[r].length ≤ 100) : ∀ m K (c a b : Nat), c + m = H[r].length → a ≤ 100000 - m → b ≤ 100000 - m → clochelaw04_BlocksHooked.l1 (K + m + 1) l t H n S is a b r c = clochelaw04_BlocksHooked.l0 K l t H n S is ((a + dv t (H[r].drop c) : Nat) : Int) ((b + js t (H[r].drop c) : Nat) : Int) ((r + 1 : Nat) : Int)
  | 0, K, c, a, b, h, ha, hb => by
    simp only [clochelaw04_BlocksHooked.l1]
    rw [if_pos (by omega), if_pos (by omega), rdLn' H r hr, if_neg (by omega), inc64 r (by omega), List.drop_eq_nil_of_le (by omega)]
    rfl
  | m + 1, K, c, a, b, h, ha, hb => by
    have hc : c < H[r].length := by omega
    have hx := hp _ (getD_mem hc)
    have ih := fun a' b' h1 h2 => H_l1 l t ht H n S is r hr hH hp hl m K (c + 1) a' b' (by omega) h1 h2
    obtain ⟨F, hF⟩ : ∃ F, F = K + m + 1 := ⟨_, rfl⟩
    rw [← hF] at ih
    rw [show K + (m + 1) + 1 = F + 1 by rw [hF]; rfl]
    simp only [clochelaw04_BlocksHooked.l1]
    have ed : dv t (H[r].drop c) = dv t (H[r].drop (c + 1)) + if H[r].getD c 0 % t = 0 then 1 else 0 := by
      unfold dv
      rw [drop_getD hc, List.countP_cons]
      simp only [decide_eq_true_eq]
    have ej : js t (H[r].drop c) = js t (H[r].drop (c + 1)) + if H[r].getD c 0 = t then 1 else 0 := by
      unfold js
      rw [drop_getD hc, List.countP_cons]
      simp only [decide_eq_true_eq]
    rw [if_pos (by omega), if_pos (by omega), rdLn' H r hr, if_pos (by omega), if_pos (by omega), rdn, if_neg (by omega), if_neg (by omega), Int.tmod_eq_emod_of_nonneg (by omega), inc64 a (by omega), inc64 b (by omega), inc64 c (by omega), ed, ej]
    by_cases h1 : H[r].getD c 0 % t = 0
    · rw [if_pos h1, if_pos h1]
      by_cases h2 : H[r].getD c 0 = t
      · rw [if_pos h2, if_pos h2, ih (a + 1) (b + 1) (by omega) (by omega)]
        congr 1 <;> omega
      · rw [if_neg h2, if_neg h2, ih (a + 1) b (by omega) (by omega)]
        congr 1 <;> omega
    · rw [if_neg h1, if_neg h1]
      by_cases h2 : H[r].getD c 0 = t
      · rw [if_pos h2, if_pos h2, ih a (b + 1) (by omega) (by omega)]
        congr 1 <;> omega
      · rw [if_neg h2, if_neg h2, ih a b (by omega) (by omega)]
        congr 1 <;> omega
theorem flatten_drop (H : List (List Int)) (r : Nat) (hr : r < H.length) : (H.drop r).flatten = H[r] ++ (H.drop (r + 1)).flatten := by
  rw [List.drop_eq_getElem_cons hr, List.flatten_cons]
theorem H_l0 (l : List Int) (t : Int) (ht : 0 < t) (H : List (List Int)) (n : Int) (S : List (List Int)) (hn : n = 0 ↔ S.length = 0) (hHl : H.length = l.length) (hH : H.length ≤ 12) (hp : ∀ r (h : r < H.length), ∀ x ∈ H[r], 1 ≤ x) (hl : ∀ r (h : r < H.length), (H[r].length : Int) = l.getD r 0 ∧ H[r].length ≤ 40) : ∀ m k (r a b : Nat), r + m = H.length → 50 * m + 300 ≤ k → a ≤ 1000 * r → b ≤ 1000 * r → ((a + dv t (H.drop r).flatten : Nat) : Int) = n → b + js t (H.drop r).flatten = S.length → clochelaw04_BlocksHooked.l0 k l t H n S (((S.length : Nat) : Int) == 0) a b r = some true
  | 0, k, r, a, b, h, hk, ha, hb, e1, e2 => by
    obtain ⟨k, rfl, _⟩ := succK (show 0 < k by omega)
    rw [List.drop_eq_nil_of_le (by omega)] at e1 e2
    have e1 : ((a : Nat) : Int) = n := e1
    have e2 : b = S.length := e2
    simp only [clochelaw04_BlocksHooked.l0]
    rw [if_neg (by omega), if_pos e1, if_pos (by omega), alive k (by omega)]
    have h1 : ((a : Int) == 0) = (((S.length : Nat) : Int) == 0) := by
      rw [Bool.eq_iff_iff, beq_iff_eq, beq_iff_eq]
      omega
    have h2 : ((b : Int) == 0) = (((S.length : Nat) : Int) == 0) := by rw [e2]
    rw [h1, h2, if_pos (by simp), if_pos (by simp)]
    rfl
  | m + 1, k, r, a, b, h, hk, ha, hb, e1, e2 => by
    have hr : r < H.length := by omega
    obtain ⟨h1, h2⟩ := hl r hr
    obtain ⟨K, rfl⟩ : ∃ K, k = (K + H[r].length + 1) + 1 := ⟨k - H[r].length - 2, by omega⟩
    have h3 := H_l1 l t ht H n S (((S.length : Nat) : Int) == 0) r hr (by omega) (hp r hr) (by omega) H[r].length K 0 a b (by omega) (by omega) (by omega)
    rw [flatten_drop H r hr] at e1 e2
    have d1 : dv t (H[r] ++ (H.drop (r + 1)).flatten) = dv t H[r] + dv t (H.drop (r + 1)).flatten := List.countP_append
    have d2 : js t (H[r] ++ (H.drop (r + 1)).flatten) = js t H[r] + js t (H.drop (r + 1)).flatten := List.countP_append
    have b1 : dv t H[r] ≤ H[r].length := List.countP_le_length
    have b2 : js t H[r] ≤ H[r].length := List.countP_le_length
    have ih := H_l0 l t ht H n S hn hHl hH hp hl m K (r + 1) (a + dv t H[r]) (b + js t H[r]) (by omega) (by omega) (by omega) (by omega) (by omega) (by omega)
    rw [List.drop_zero] at h3
    generalize hF : K + H[r].length + 1 = F at h3
    simp only [clochelaw04_BlocksHooked.l0]
    rw [if_pos (by omega), if_pos (by omega), if_pos (by omega), rdLn' H r hr, rdn, if_pos h1]
    exact h3.trans ih
theorem BlocksHooked : clochelaw04_BlocksHooked.Pure := by
  intro l a _ _ _ ha
  obtain ⟨k, hk⟩ : ∃ k, k = 3000 := ⟨_, rfl⟩
  refine ⟨k + 2, ?_⟩
  obtain ⟨t, hw, h2, h6⟩ := wires_of a ha
  have hbad : clochelaw04_BlocksHooked.j0 (k + 2) l a true = some true := by
    simp only [clochelaw04_BlocksHooked.j0]
    rw [if_pos trivial, alive _ (by omega)]
    rfl
  unfold clochelaw04_BlocksHooked.f
  rw [few_f l _ (by omega), Option.bind_some]
  by_cases hL : l.length ≤ 60
  · rw [decide_eq_true hL, if_pos rfl, rIs_f l _ (by omega), Option.bind_some]
    cases h : isShp l
    · exact hbad
    · have hs := (isShp_iff l).1 h
      have ho := okW_of hs h2 h6
      have hl := hs.len
      have ht : 0 < t := by omega
      have hHl : (Pure.hk l).length = l.length := by simp [Pure.hk]
      have hrow : ∀ r (h : r < (Pure.hk l).length), (Pure.hk l)[r] = hkRow l r := fun r h => by simp [Pure.hk]
      have hz : (core t l).2 = 0 ↔ (strp t l).length = 0 := by
        constructor
        · intro h0
          rcases List.eq_nil_or_concat (strp t l) with e | ⟨_, _, e⟩
          · rw [e]; rfl
          · have := (core_cons ht hs (show strp t l ≠ [] by rw [e]; simp)).1
            omega
        · intro h0
          rw [core_nil (List.length_eq_zero_iff.1 h0)]
      show clochelaw04_BlocksHooked.j0 (k + 1 + 1) l a false = some true
      have hl0 := H_l0 l t ht (Pure.hk l) (core t l).2 (strp t l) hz hHl (by omega) (fun r h => by
        rw [hrow r h]
        exact hook_pos hs.dr (by omega)) (fun r h => by
        have hb := hs.bound _ (getD_mem (show r < l.length by omega))
        rw [hrow r h]
        unfold hkRow
        rw [List.length_map, List.length_range']
        omega) (Pure.hk l).length k 0 0 0 (by omega) (by omega) (by omega) (by omega) (by rw [List.drop_zero, Nat.zero_add]; exact div_core hs ht) (by rw [List.drop_zero, Nat.zero_add]; exact just_all hs.dr ht)
      have hj1 : clochelaw04_BlocksHooked.j1 (k + 1) l t (Pure.hk l) (core t l).2 (strp t l) (((strp t l).length : Int) == 0) false = some true := by
        simp only [clochelaw04_BlocksHooked.j1]
        rw [if_neg (by decide)]
        exact hl0
      obtain ⟨F, hF⟩ : ∃ F, F = k + 1 := ⟨_, rfl⟩
      have hH : blocks_Hooks.f F l = some (Pure.hk l, 0) := by
        unfold blocks_Hooks.f
        rw [bIs_f l F (by omega), Option.bind_some, h, if_pos rfl, hooks_f l hs F (by omega), Option.bind_some]
      rw [← hF] at hj1 ⊢
      simp only [clochelaw04_BlocksHooked.j0]
      rw [if_neg (by decide), hw, Option.bind_some, hH, Option.bind_some, bCore_f l t F (by omega), if_pos ho, Option.bind_some, bStrips_f l t F (by omega), if_pos ho, Option.bind_some, bIsCore_f l t F (by omega), if_pos ho, Option.bind_some]
      dsimp only
      rw [if_pos rfl, if_pos rfl, if_pos rfl, if_pos rfl, hHl, bne_self_eq_false]
      exact hj1
  · rw [decide_eq_false hL, if_neg (by decide)]
    exact hbad
end Go.Proofs.Ytcmphfcpiciehaa.Pure
