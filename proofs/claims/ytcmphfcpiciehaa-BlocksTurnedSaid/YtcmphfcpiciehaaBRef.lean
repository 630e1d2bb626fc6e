/- The specification's columns and lengths of hooks. -/
import Derived.Test.YtcmphfcpiciehaaBBase
import Derived.Test.YtcmphfcpiciehaaPrintx21
import Derived.Test.YtcmphfcpiciehaaPrintx22
namespace Go.Proofs.Ytcmphfcpiciehaa.Pure
open Go.RowKit Go.Proofs.Ytcmphfcpiciehaa.Print Go.Proofs.YtcmphfcpiciehaaW.PrintWords Go.Proofs.YtcmphfcpiciehaaW.PrintLast Go.Proofs.YtcmphfcpiciehaaW.PrintMore
theorem Col_l1 (l : List Int) (hl : l.length ≤ 12) (acc : List Int) (ha : acc.length ≤ 100) (c : Nat) (hc : c ≤ 100) : ∀ n K (j : Nat) (a : Int), j + n = l.length → 0 ≤ a → a ≤ j → clocheref04_Columns.l1 (K + n + 1) l acc c a j = clocheref04_Columns.l0 K l (acc ++ [a + ((l.drop j).map (gtI (c : Int))).sum]) ((c + 1 : Nat) : Int)
  | 0, K, j, a, h, h0, h1 => by
    show clocheref04_Columns.l1 (K + 1) l acc c a j = _
    simp only [clocheref04_Columns.l1]
    rw [if_neg (by omega), if_pos (by omega), List.drop_eq_nil_of_le (by omega), inc64 c (by omega)]
    simp
  | n + 1, K, j, a, h, h0, h1 => by
    have e1 := inc64 j (by omega)
    obtain ⟨F, hF⟩ : ∃ F, F = K + n + 1 := ⟨_, rfl⟩
    have ih := fun a' => Col_l1 l hl acc ha c hc n K (j + 1) a' (by omega)
    rw [← hF] at ih
    rw [show K + (n + 1) + 1 = F + 1 by omega]
    simp only [clocheref04_Columns.l1]
    rw [if_pos (by omega), if_pos (by omega), rdn, e1, drop_getD (show j < l.length by omega)]
    simp only [List.map_cons, List.sum_cons]
    by_cases hg : l.getD j 0 > (c : Int)
    · rw [if_pos hg, w64 (by omega) (by omega), ih (a + 1) (by omega) (by omega)]
      have : gtI (c : Int) (l.getD j 0) = 1 := by unfold gtI; rw [if_pos hg]
      rw [this, Int.add_assoc]
    · rw [if_neg hg, ih a (by omega) (by omega)]
      have : gtI (c : Int) (l.getD j 0) = 0 := by unfold gtI; rw [if_neg hg]
      rw [this, Int.zero_add]
theorem Col_l0 (l : List Int) (hs : Shp l) (hp : 0 < l.length) : ∀ n k (i : Nat) (acc : List Int), i + n = (l.getD 0 0).toNat → 20 * n + 5 ≤ k → acc.length = i → clocheref04_Columns.l0 k l acc i = some (acc ++ (List.range' i n).map (colI l))
  | 0, k, i, acc, h, hk, ha => by
    obtain ⟨k, rfl⟩ : ∃ K, k = K + 2 := ⟨k - 2, by omega⟩
    have hh := hs.head
    have hr : rd l 0 = l.getD 0 0 := rdn l 0
    simp only [clocheref04_Columns.l0]
    rw [if_pos (by omega), if_pos (by omega), hr, decide_eq_false (by omega)]
    simp [clocheref04_Columns.j1]
  | n + 1, k, i, acc, h, hk, ha => by
    have hh := hs.head
    have hl := hs.len
    obtain ⟨K, rfl⟩ : ∃ K, k = (K + l.length + 1) + 1 + 1 := ⟨k - l.length - 3, by omega⟩
    have hr : rd l 0 = l.getD 0 0 := rdn l 0
    have h1 := Col_l1 l hl acc (by omega) i (by omega) l.length K 0 0 (by omega) (Int.le_refl _) (by simp)
    have ih := Col_l0 l hs hp n K (i + 1) (acc ++ [colI l i]) (by omega) (by omega) (by simp [ha])
    obtain ⟨F, hF⟩ : ∃ F, F = K + l.length + 1 := ⟨_, rfl⟩
    rw [← hF] at h1 ⊢
    simp only [clocheref04_Columns.l0]
    rw [if_pos (by omega), if_pos (by omega), hr, decide_eq_true (by omega)]
    simp only [clocheref04_Columns.j1]
    rw [if_pos trivial]
    refine Eq.trans h1 ?_
    rw [Int.zero_add, List.drop_zero]
    refine Eq.trans ih ?_
    rw [range'_succ', List.map_cons, List.append_assoc]
    rfl
theorem Col_f (l : List Int) (hs : Shp l) (k : Nat) (hk : 900 ≤ k) : clocheref04_Columns.f k l = some (cols l) := by
  unfold clocheref04_Columns.f
  have hh := hs.head
  rcases Nat.eq_zero_or_pos l.length with e | e
  · have : l = [] := List.eq_nil_of_length_eq_zero e
    subst this
    obtain ⟨k, rfl⟩ : ∃ K, k = K + 2 := ⟨k - 2, by omega⟩
    simp only [clocheref04_Columns.l0]
    rw [if_neg (by simp)]
    simp [clocheref04_Columns.j1, cols]
  · have := Col_l0 l hs e (l.getD 0 0).toNat k 0 [] (by omega) (by omega) rfl
    exact this
theorem Len_l1 (l : List Int) (hs : Shp l) (acc : List (List Int)) (ha : acc.length ≤ 100) (r : Nat) (hr : r < l.length) : ∀ n K (c : Nat) (row : List Int), c + n = (l.getD r 0).toNat → row.length = c → clocheref04_Lengths.l1 (K + n + 1) l (cols l) acc r row c = clocheref04_Lengths.l0 K l (cols l) (acc ++ [row ++ (List.range' c n).map (hook l r)]) ((r + 1 : Nat) : Int)
  | 0, K, c, row, h, hw => by
    have h1 := hs.bound _ (getD_mem hr)
    have hl := hs.len
    show clocheref04_Lengths.l1 (K + 1) l (cols l) acc r row c = _
    simp only [clocheref04_Lengths.l1]
    rw [if_pos (by omega), if_pos (by omega), rdn, if_neg (by omega), if_pos (by omega), inc64 r (by omega)]
    simp
  | n + 1, K, c, row, h, hw => by
    have h1 := hs.bound _ (getD_mem hr)
    have h2 := hs.le_head r hr
    have hl := hs.len
    have e1 := inc64 c (by omega)
    have hc2 : (c : Int) < ((cols l).length : Int) := by
      rw [cols_length]
      omega
    have hc3 : (c : Int) < l.getD r 0 := by clear hc2; omega
    have hc4 : row.length < 17592186044416 := by clear hc2; omega
    have hc5 : c < (l.getD r 0).toNat := by clear hc2; omega
    have hc6 : c + 1 + n = (l.getD r 0).toNat := by clear hc2; omega
    obtain ⟨F, hF⟩ : ∃ F, F = K + n + 1 := ⟨_, rfl⟩
    have ih := Len_l1 l hs acc ha r hr n K (c + 1) (row ++ [hook l r c]) hc6 (by rw [List.length_append, hw]; rfl)
    rw [← hF] at ih
    rw [show K + (n + 1) + 1 = F + 1 by rw [hF]; rfl]
    simp only [clocheref04_Lengths.l1]
    rw [if_pos (Int.natCast_nonneg r), if_pos (Int.ofNat_lt.2 hr), rdn, if_pos hc3, if_pos (Int.natCast_nonneg c), if_pos hc2, if_pos hc4, rdn, hook_wrap hs hr hc5, e1]
    refine Eq.trans ih ?_
    rw [range'_succ', List.map_cons, List.append_assoc]
    rfl
theorem Len_l0 (l : List Int) (hs : Shp l) : ∀ n k (i : Nat) (acc : List (List Int)), i + n = l.length → 50 * n + 5 ≤ k → acc.length = i → clocheref04_Lengths.l0 k l (cols l) acc i = some (acc ++ (List.range' i n).map (hkRow l))
  | 0, k, i, acc, h, hk, ha => by
    obtain ⟨k, rfl, _⟩ := succK (show 0 < k by omega)
    simp only [clocheref04_Lengths.l0]
    rw [if_neg (by omega)]
    simp
  | n + 1, k, i, acc, h, hk, ha => by
    have hl := hs.len
    have h1 := hs.bound _ (getD_mem (show i < l.length by omega))
    obtain ⟨K, rfl⟩ : ∃ K, k = (K + (l.getD i 0).toNat + 1) + 1 := ⟨k - (l.getD i 0).toNat - 2, by omega⟩
    have h2 := Len_l1 l hs acc (by omega) i (by omega) (l.getD i 0).toNat K 0 [] (by omega) rfl
    have ih := Len_l0 l hs n K (i + 1) (acc ++ [hkRow l i]) (by omega) (by omega) (by simp [ha])
    obtain ⟨F, hF⟩ : ∃ F, F = K + (l.getD i 0).toNat + 1 := ⟨_, rfl⟩
    rw [← hF] at h2 ⊢
    simp only [clocheref04_Lengths.l0]
    rw [if_pos (by omega)]
    refine Eq.trans h2 ?_
    refine Eq.trans ih ?_
    rw [range'_succ', List.map_cons, List.append_assoc]
    rfl
theorem Len_f (l : List Int) (hs : Shp l) (k : Nat) (hk1 : 900 ≤ k) : clocheref04_Lengths.f k l = some (hk l) := by
  have hl := hs.len
  unfold clocheref04_Lengths.f
  rw [Col_f l hs k hk1, Option.bind_some]
  have := Len_l0 l hs l.length k 0 [] (by omega) (by omega) rfl
  exact this
end Go.Proofs.Ytcmphfcpiciehaa.Pure
